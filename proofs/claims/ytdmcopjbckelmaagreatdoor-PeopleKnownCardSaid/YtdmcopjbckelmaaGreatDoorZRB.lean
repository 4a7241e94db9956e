/- Walks of the reference's small functions: At, EqTexts, CopyTexts, Copy, Same2. Conditions: those stated. -/
import Derived.Test.YtdmcopjbckelmaaGreatDoorZD
namespace Go.Proofs.YtdmcopjbckelmaaGreatDoor
open Go Go.RowKit Go.Shelf
attribute [local go_sem] Oper.semAt_some

/-- The index of a string in a list; -1: it isn't there. -/
def atF (l : List ByteArray) (s : ByteArray) : Int := if posF l s < l.length then (posF l s : Int) else -1
theorem atF_mem {l : List ByteArray} {s : ByteArray} (h : s ∈ l) : atF l s = (posF l s : Int) := if_pos (posF_lt h)
theorem atF_none {l : List ByteArray} {s : ByteArray} (h : ¬ s ∈ l) : atF l s = -1 := if_neg (by rw [posF_no h]; omega)
theorem atF_yes {l : List ByteArray} {s : ByteArray} {i : Nat} (h : l[i]? = some s) (hn : ∀ j, j < i → l[j]? ≠ some s) : atF l s = (i : Int) := by
  rw [atF_mem (List.mem_of_getElem? h), posF_eq h hn]
theorem atF_no {l : List ByteArray} {s : ByteArray} {i : Nat} (hi : l.length ≤ i) (hn : ∀ j, j < i → l[j]? ≠ some s) : atF l s = -1 := by
  refine atF_none fun hm => ?_
  exact hn _ (Nat.lt_of_lt_of_le (posF_lt hm) hi) (posF_get hm)
theorem atF_neg {l : List ByteArray} {s : ByteArray} : atF l s < 0 ↔ ¬ s ∈ l := by
  by_cases h : s ∈ l
  · rw [atF_mem h]; simp [h]
  · rw [atF_none h]; simp [h]
theorem atF_lt {l : List ByteArray} {s : ByteArray} : atF l s < (l.length : Int) ∨ l.length = 0 := by
  unfold atF
  split <;> omega
set_option maxHeartbeats 1000000 in
theorem rAt_any (v : Value) (l : List ByteArray) (s : ByteArray) (w : World) (h : Sl w 1 v (namesV l)) :
    Calls Tryz.prog 39 #[v, .string s] w fun e w' => e = .returned (.int .i64 (atF l s)) ∧ w' = w := by
  obtain ⟨A, c, rfl, hlc, hcm, hcell⟩ := h.open1
  simp only [namesV_length] at *
  have HC := Lib.hid hcell
  have HR : ∀ r, atF l s = r → Hid (atF l s = r) := fun r h => Lib.hid h
  clear h hcell
  go_enter Tryz.func39, Tryz.ntmps39
  go_wp2
  go_loop [5] (fun ti => ∃ i : Nat, ti = .int .i64 i ∧ i ≤ l.length ∧ Hid (∀ j, j < i → l[j]? ≠ some s)) (fun ti => l.length - (intOf ti).toNat)
  case atStart => exact ⟨0, rfl, by omega, fun j hj => absurd hj (Nat.not_lt_zero _)⟩
  case round =>
    obtain ⟨i, rfl, hi, HO⟩ := hrel
    by_cases hlt : i < l.length
    · have hii : (i : Int) < (l.length : Int) := by omega
      have hget : l[i]? = some l[i] := List.getElem?_eq_getElem hlt
      obtain ⟨ad, rfl, c1⟩ := HC.out i (.string l[i]) (by simp [namesV, hget])
      by_cases hq : l[i] = s
      · have hr := HR (i : Int) (atF_yes (hq ▸ hget) HO.out)
        have heq : (l[i].toList == s.toList) = true := by rw [hq]; simp
        clear HR hq hget
        generalize l[i] = t at *
        go_wp2
        go_ret
        exact ⟨by rw [hr.out]; rfl, rfl⟩
      · have HN := Lib.hid (show l[i]? ≠ some s by rw [hget]; simpa using hq)
        have heq : (l[i].toList == s.toList) = false := by rw [Bool.eq_false_iff]; intro z; exact hq ((Lib.bytes_beq_iff _ _).1 z)
        clear HR hq hget
        generalize l[i] = t at *
        go_wp2
        exact ⟨⟨i + 1, by go_num, by omega, fun j hj => by
          rcases Nat.lt_succ_iff_lt_or_eq.1 hj with q | q
          · exact HO.out j q
          · rw [q]; exact HN.out⟩, by simp [intOf]; omega⟩
    · have hr := HR (-1) (atF_no (by omega) HO.out)
      clear HR
      go_wp2
      go_ret
      exact ⟨by rw [hr.out]; rfl, rfl⟩
set_option maxRecDepth 100000 in
set_option maxHeartbeats 1000000 in
theorem eqTexts_any (a b : Value) (xs ys : List ByteArray) (w : World) (ha : Sl w 1 a (namesV xs)) (hb : Sl w 1 b (namesV ys)) :
    Calls Tryz.prog 21 #[a, b] w fun e w' => e = .returned (.bool (decide (xs = ys))) ∧ Below w.heap.size w w' := by
  obtain ⟨A, c, rfl, hlc, hcm, hcell⟩ := ha.open1
  obtain ⟨A', c', rfl, hlc', hcm', hcell'⟩ := hb.open1
  simp only [namesV_length] at *
  go_enter Tryz.func21, Tryz.ntmps21
  by_cases hl : xs.length = ys.length
  · have b1 : ((xs.length : Int) == (ys.length : Int)) = true := beq_iff_eq.2 (by omega)
    have HC := Lib.hid hcell
    have HC' := Lib.hid hcell'
    clear hcell hcell' ha hb
    go_wp2
    go_loopw [5] (fun t wr => ∃ k : Nat, t = .int .i64 k ∧ k ≤ xs.length ∧ (∀ j (h : j < k) (h1 : j < xs.length) (h2 : j < ys.length), xs[j] = ys[j]) ∧ Below w.heap.size w wr) (fun t _ => xs.length - (intOf t).toNat)
    case atStart => exact ⟨0, rfl, by omega, fun j h => by omega, Below.refl _ _⟩
    case round =>
      obtain ⟨k, rfl, hk, heq, hB⟩ := hrel
      have HE := Lib.hid heq
      clear heq
      by_cases hlt : k < xs.length
      · have hlt' : k < ys.length := by omega
        obtain ⟨ad, rfl, h1⟩ := HC.out k (.string xs[k]) (by simp [namesV, List.getElem?_eq_getElem hlt])
        obtain ⟨ad', rfl, h2⟩ := HC'.out k (.string ys[k]) (by simp [namesV, List.getElem?_eq_getElem hlt'])
        have e1 := below_cell hB h1
        have e2 := below_cell hB h2
        clear h1 h2
        obtain ⟨x, hx⟩ : ∃ x, xs[k] = x := ⟨_, rfl⟩
        obtain ⟨y, hy⟩ : ∃ y, ys[k] = y := ⟨_, rfl⟩
        rw [hx] at e1
        rw [hy] at e2
        have HX := Lib.hid hx
        have HY := Lib.hid hy
        clear hx hy
        by_cases hxy : x = y
        · have b2 : (x.toList == y.toList) = true := by rw [hxy]; simp
          have HXY := Lib.hid hxy
          clear hxy
          go_wp2
          go_quiet (fail)
          go_wp2
          go_roundw
          case rel =>
            refine ⟨k + 1, by simp, hlt, fun j hj h3 h4 => ?_, below_drewN hB _⟩
            by_cases e : j = k
            · subst e; rw [HX.out, HY.out, HXY.out]
            · exact HE.out j (by omega) h3 h4
          case measure => simp [intOf]; omega
        · have b2 : (x.toList == y.toList) = false := by rw [Bool.eq_false_iff]; intro z; exact hxy ((Lib.bytes_beq_iff _ _).1 z)
          have HR := Lib.hid (show decide (xs = ys) = false by
            refine decide_eq_false (fun e => hxy ?_)
            subst e
            rw [← HX.out, ← HY.out])
          clear hxy
          go_wp2
          go_quiet (fail)
          go_wp2
          go_ret
          exact ⟨by rw [HR.out]; rfl, below_drewN hB _⟩
      · have HR := Lib.hid (show decide (xs = ys) = true from decide_eq_true (List.ext_getElem hl fun j h1 h2 => HE.out j (by omega) h1 h2))
        go_wp2
        go_ret
        exact ⟨by rw [HR.out]; rfl, hB⟩
  · have b1 : ((xs.length : Int) == (ys.length : Int)) = false := beq_eq_false_iff_ne.2 (by omega)
    have HR := Lib.hid (show decide (xs = ys) = false from decide_eq_false (fun e => hl (by rw [e])))
    go_wp2
    go_ret
    exact ⟨by rw [HR.out]; rfl, Below.refl _ _⟩
end Go.Proofs.YtdmcopjbckelmaaGreatDoor
