/- Walks of the reference: takes, together. Conditions: those stated. Walks of the reference: far. Conditions: those stated. -/
import Derived.Test.YtdmcopjbckelmaaGreatDoorZJ1
import Derived.Test.YtdmcopjbckelmaaGreatDoorZG1
import Derived.Test.YtdmcopjbckelmaaGreatDoorZI5A
namespace Go.Proofs.YtdmcopjbckelmaaGreatDoor
section
open Go Go.RowKit Go.Shelf
attribute [local go_sem] Oper.semAt_some

set_option maxHeartbeats 2000000 in
theorem rtakes_any (nm : ByteArray) (y : Int) (se sl : ByteArray) (wit : List ByteArray) (Aw : Option Addr) (nw cw : Nat) (s : ByteArray) (w : World) (h : Sl w 1 (.slice Aw nw cw) (namesV wit)) :
    Calls Tryz.prog 91 #[.agg #[.string nm, .int .i64 y, .string se, .string sl, .slice Aw nw cw], .string s] w fun e w' => e = .returned (.bool (takesB ⟨nm, y, se, sl, wit⟩ s)) ∧ Below w.heap.size w w' := by
  have hb := below_alloc' w (.cells #[.string nm, .int .i64 y, .string se, .string sl, .slice Aw nw cw] 63)
  have HB := Lib.hid hb
  by_cases e : se = s
  · have HT := Lib.hid (show takesB ⟨nm, y, se, sl, wit⟩ s = true by unfold takesB; simp only [e]; simp)
    have heq : (se.toList == s.toList) = true := by rw [e]; simp
    clear e h hb
    go_enter Tryz.func91, Tryz.ntmps91
    go_wp2
    go_ret
    exact ⟨by rw [HT.out]; rfl, HB.out⟩
  · have heq : (se.toList == s.toList) = false := by rw [Bool.eq_false_iff]; intro z; exact e ((Lib.bytes_beq_iff _ _).1 z)
    obtain ⟨i, hi⟩ : ∃ i, atF wit s = i := ⟨_, rfl⟩
    have HC := Lib.hid (rAt_in _ (h.below hb) hi)
    have key : s ∈ wit ↔ 0 ≤ i := by
      have q : i < 0 ↔ ¬ s ∈ wit := by rw [← hi]; exact atF_neg
      by_cases z : s ∈ wit
      · exact ⟨fun _ => by have : ¬ i < 0 := fun y => (q.1 y) z; omega, fun _ => z⟩
      · have := q.2 z
        exact ⟨fun y => absurd y z, fun _ => by omega⟩
    have HT : Hid (takesB ⟨nm, y, se, sl, wit⟩ s = decide (0 ≤ i)) := Lib.hid (by
      unfold takesB
      rw [decide_eq_false e, Bool.false_or, Bool.eq_iff_iff, memB_iff, decide_eq_true_eq]
      exact key)
    clear key
    clear e h hb hi
    go_enter Tryz.func91, Tryz.ntmps91
    go_wp2_with fail
    refine HC.out.mono ?_
    rintro e w' ⟨rfl, rfl⟩
    go_wp2
    go_ret
    exact ⟨by rw [HT.out]; rfl, HB.out⟩
set_option maxRecDepth 100000 in
set_option maxHeartbeats 4000000 in
theorem rtogether_any (v : Value) (ds : List De) (a b : ByteArray) (w : World) (h : DeedsV w v ds) (hl : ds.length ≤ 64) :
    Calls Tryz.prog 70 #[v, .string a, .string b] w fun e w' => e = .returned (.int .i64 (togF ds a b : Int)) ∧ Below w.heap.size w w' := by
  obtain ⟨A, c, rfl, h⟩ := h.shape
  obtain ⟨_, h1, h2⟩ := h.many
  have HD := Lib.hid (fun q => h.deed q)
  have HB0 := Lib.hid (Below.refl w.heap.size w)
  clear h
  go_enter Tryz.func70, Tryz.ntmps70
  go_wp2
  go_loopw [7, 8] (fun tn ti wr => ∃ k : Nat, ti = .int .i64 k ∧ k ≤ ds.length ∧ tn = .int .i64 ((togF (ds.take k) a b : Nat) : Int) ∧ Hid (Below w.heap.size w wr)) (fun _ ti _ => ds.length - (intOf ti).toNat)
  case atStart => exact ⟨0, rfl, by omega, rfl, HB0.out⟩
  case round =>
    clear HB0
    obtain ⟨k, rfl, hk, rfl, HB⟩ := hrel
    by_cases hlt : k < ds.length
    · have hki : (k : Int) < (ds.length : Int) := by omega
      have hk0 : (0 : Int) ≤ (k : Int) := by omega
      obtain ⟨b0, o0, rfl, _, hce⟩ := HD.out (by omega)
      have hget : ds[k]? = some ds[k] := List.getElem?_eq_getElem hlt
      obtain ⟨g0, g1, g2, g3, Aw, nw, cw, g4, hsw⟩ := hce k _ hget
      have HG := Lib.hid (⟨g0, g1, g2, g3, g4⟩ : _ ∧ _ ∧ _ ∧ _ ∧ _)
      replace g0 := below_cell HB.out g0
      replace g1 := below_cell HB.out g1
      replace g2 := below_cell HB.out g2
      replace g3 := below_cell HB.out g3
      replace g4 := below_cell HB.out g4
      have HT := Lib.hid (tog_succ hget a b)
      have HL := Lib.hid (tog_le ds a b k)
      have HW := Lib.hid hsw
      clear hce hget hsw
      generalize ds[k] = d at *
      obtain ⟨nm, yr, se, sl, wit⟩ := d
      simp only at g0 g1 g2 g3 g4 HW HG
      have HC1 := Lib.hid (rtakes_any nm yr se sl wit Aw nw cw a wr (HW.out.below HB.out))
      have HC2 := Lib.hid (fun w' (hw : Below w.heap.size w w') => rtakes_any nm yr se sl wit Aw nw cw b w' (HW.out.below hw))
      generalize takesB ⟨nm, yr, se, sl, wit⟩ a = t1 at *
      generalize takesB ⟨nm, yr, se, sl, wit⟩ b = t2 at *
      generalize togF (ds.take k) a b = T at *
      have hwr : IntKind.i64.wrap ((T : Int) + 1) = (T : Int) + 1 := IntWalk.i64_in _ (by have := HL.out; omega)
      go_wp2_with fail
      refine HC1.out.mono ?_
      rintro e w2 ⟨rfl, hb2⟩
      have HB2 := Lib.hid (HB.out.trans (hb2.mono HB.out.size))
      clear hb2 HC1 g0 g1 g2 g3 g4
      cases t1 with
      | false =>
        go_wp2
        go_roundw
        case rel => exact ⟨k + 1, by go_num, by omega, by rw [HT.out]; rfl, HB2.out⟩
        case measure => simp [intOf]; omega
      | true =>
        have g0 := below_cell HB2.out HG.out.1
        have g1 := below_cell HB2.out HG.out.2.1
        have g2 := below_cell HB2.out HG.out.2.2.1
        have g3 := below_cell HB2.out HG.out.2.2.2.1
        have g4 := below_cell HB2.out HG.out.2.2.2.2
        go_wp2_with fail
        refine (HC2.out w2 HB2.out).mono ?_
        rintro e w3 ⟨rfl, hb3⟩
        have HB3 := Lib.hid (HB2.out.trans (hb3.mono HB2.out.size))
        clear hb3 g0 g1 g2 g3 g4
        cases t2 with
        | false =>
          go_wp2
          go_roundw
          case rel => exact ⟨k + 1, by go_num, by omega, by rw [HT.out]; rfl, HB3.out⟩
          case measure => simp [intOf]; omega
        | true =>
          go_wp2
          go_roundw
          case rel => exact ⟨k + 1, by go_num, by omega, by rw [HT.out]; simp, HB3.out⟩
          case measure => simp [intOf]; omega
    · have hkn : k = ds.length := by omega
      have HR := Lib.hid (show togF (ds.take k) a b = togF ds a b by rw [hkn, List.take_length])
      clear hkn
      go_wp2
      go_ret
      exact ⟨by rw [HR.out]; rfl, HB.out⟩
end

section
open Go Go.RowKit Go.Shelf
attribute [local go_sem] Oper.semAt_some
theorem names_at2 {w : World} {v : Value} {l : List ByteArray} (h : Sl w 1 v (namesV l)) : ∃ A c, v = .slice A l.length c ∧ l.length ≤ c ∧ (c : Int) ≤ 9223372036854775807 ∧ (0 < l.length → ∃ b o, A = some ⟨b, o, none⟩ ∧ b < w.heap.size ∧ ∀ (k : Nat) s, l[k]? = some s → w.cell? ⟨b, o + k, none⟩ = some (.string s)) := by
  obtain ⟨A, n, c, rfl, hl, hc, hm, hcl⟩ := h.open2 (by decide)
  rw [namesV_length] at hl
  obtain rfl : n = l.length := by omega
  refine ⟨A, c, rfl, hc, hm, fun hn => ?_⟩
  obtain ⟨b, o, rfl, hb, hce⟩ := hcl hn
  exact ⟨b, o, rfl, hb, fun k s hk => hce k _ (by simp [namesV, hk])⟩
theorem vsI_sl2 {w : World} {B : Nat} {t : TypeId} {l : List Int} {n : Nat} (h : Cel w B t (vsI l)) (hl : l.length = n) (hn : n ≤ 65536) : Sl w 1 (.slice (some ⟨B, 0, none⟩) n n) (l.map (Value.int .i64)) := by
  refine ⟨_, n, n, rfl, by rw [List.length_map]; omega, Nat.le_refl _, by omega, fun _ => ⟨_, rfl, fun j u hj => ?_⟩⟩
  have e : (⟨B, 0, none⟩ : Addr).add j = ⟨B, j, none⟩ := by unfold Addr.add; split <;> simp_all
  rw [e]
  exact h.cell j u (by unfold vsI; rw [List.getElem?_toArray]; exact hj)
/-- A complete table of the ways to one of the people, in meetings. -/
def FarT (ps : List ByteArray) (ds : List De) (a : ByteArray) (out : List Int) : Prop :=
  out.length = ps.length ∧ ∀ (m : Nat) (s : ByteArray), ps[m]? = some s → (∃ d : Nat, out[m]? = some (d : Int) ∧ Lst (Met ds) a d s) ∨ (out[m]? = some (-1) ∧ ∀ d, ¬ Lv (Met ds) a d s)
theorem tab_had {R : ByteArray → ByteArray → Prop} {a : ByteArray} {ps : List ByteArray} {k i : Nat} {E E' : Nat → Nat → Prop} {out : List Int} {x : Int} (h : Tab R a ps k E out) (hx : out[i]? = some x) (h0 : 0 ≤ x) (hE : ∀ i' m', E' i' m' → m' ≠ i → E i' m') : Tab R a ps k E' out := by
  refine ⟨h.1, fun m s hs => ?_⟩
  rcases h.2 m s hs with q | ⟨q1, q2, q3⟩
  · exact .inl q
  · refine .inr ⟨q1, q2, fun i' r hi he => q3 i' r hi (hE i' m he (fun e => ?_))⟩
    rw [e, hx] at q1
    have : x = -1 := by simpa using q1
    omega
set_option maxRecDepth 100000 in
set_option maxHeartbeats 8000000 in
theorem rfar_any (v : Value) (ds : List De) (A : Option Addr) (c : Nat) (ps : List ByteArray) (a : ByteArray) (w : World) (h : DeedsV w v ds) (hl : ds.length ≤ 64) (hps : Sl w 1 (.slice A ps.length c) (namesV ps)) (hp : ps.length ≤ 65536) (ha : a ∈ ps) (hm : ∀ s t, Met ds s t → t ∈ ps) :
    Calls Tryz.prog 74 #[v, .slice A ps.length c, .string a] w fun e w' => Below w.heap.size w w' ∧ ∃ u out, e = .returned u ∧ Sl w' 1 u (out.map (Value.int .i64)) ∧ FarT ps ds a out := by
  have hmk : ∀ W : World, (Instr.makeSlice 47 (.int .i64 (ps.length : Int)) (.int .i64 (ps.length : Int))).run Tryz.prog W = .ok (.slice (some ⟨W.heap.size, 0, none⟩) ps.length ps.length) (W.alloc (.cells (vsI (List.replicate ps.length 0)) 3)) := by
    intro W
    obtain ⟨i, hi, hz0, hz1, hz2⟩ := info_parts infoInt
    have hr := run_make (P := Tryz.prog) W 47 3 i (.int .i64 0) Tryz.underlying47 hi hz0 .i64 .i64 (ps.length : Int) (ps.length : Int) (by omega) (Int.le_refl _) (by rw [hz2]; omega) (by omega)
    simp only [Int.toNat_natCast] at hr
    rw [hr, hz1, made_ints]
  have HC := Lib.hid (Cel.new w 3 (vsI (List.replicate ps.length 0)))
  have HB := Lib.hid (below_alloc' w (.cells (vsI (List.replicate ps.length 0)) 3))
  have HTo := Lib.hid (fun r s w' (hw : Below w.heap.size w w') => rtogether_any v ds r s w' (h.below hw) hl)
  have HP := Lib.hid hp
  have HA := Lib.hid ha
  have HPm := Lib.hid hm
  obtain ⟨A1, c1', hA, hcc, hccm, hcl⟩ := names_at2 hps
  cases hA
  obtain ⟨b0, o0, hA, _, hce⟩ := hcl (List.length_pos_of_mem ha)
  subst hA
  have HCe := Lib.hid (fun k s hk => hce k s hk)
  have hn63 : (ps.length : Int) ≤ 9223372036854775807 := by omega
  obtain ⟨Av, cv, rfl, _⟩ := h.shape
  clear h hce ha hp hps hcl hm hl
  go_enter Tryz.func74, Tryz.ntmps74
  go_upto_region 2 with fail
  clear hmk
  generalize w.alloc (.cells (vsI (List.replicate ps.length 0)) 3) = W0 at *
  go_wp2
  go_loopw [8] (fun ti wr => ∃ (k : Nat) (out : List Int), ti = .int .i64 k ∧ k ≤ ps.length ∧ Hid (St1 ps a k out) ∧ Hid (Cel wr w.heap.size 3 (vsI out)) ∧ Hid (Below w.heap.size w wr)) (fun ti _ => ps.length - (intOf ti).toNat)
  case atStart => exact ⟨0, _, rfl, by omega, ⟨by simp, fun _ _ hm => absurd hm (Nat.not_lt_zero _)⟩, HC.out, HB.out⟩
  case round =>
    clear HC HB
    obtain ⟨k, out, rfl, hk, HS, HC, HB⟩ := hrel
    by_cases hlt : k < ps.length
    · have hki : (k : Int) < (ps.length : Int) := by omega
      have hk0 : (0 : Int) ≤ (k : Int) := by omega
      have hget : ps[k]? = some ps[k] := List.getElem?_eq_getElem hlt
      obtain ⟨y, hok⟩ : ∃ y, out[k]? = some y := ⟨_, List.getElem?_eq_getElem (by rw [HS.out.1]; exact hlt)⟩
      have x0 := HC.out.cell k _ (vsI_get hok)
      have x1 := HC.out.frozen k
      have HC1 := Lib.hid (HC.out.setAt k (.int .i64 (-1)))
      rw [vsI_set] at HC1
      have hok1 : (out.set k (-1))[k]? = some (-1) := List.getElem?_set_self (by rw [HS.out.1]; exact hlt)
      have x2 := HC1.out.cell k _ (vsI_get hok1)
      have x3 := HC1.out.frozen k
      have HB1 := Lib.hid (HB.out.setCell (p := ⟨w.heap.size, k, none⟩) (by simp) (.int .i64 (-1)))
      have c2 := below_cell HB1.out (HCe.out k _ hget)
      have HNx := Lib.hid (fun x hx => HS.out.next (x := x) hget hx)
      clear hget hok hok1
      generalize ps[k] = s at *
      by_cases hq : s = a
      · have hqe : (s.toList == a.toList) = true := by rw [hq]; simp
        have HN2 := Lib.hid (HNx.out 0 (by rw [if_pos hq]))
        have HC2 := Lib.hid (HC1.out.setAt k (.int .i64 0))
        rw [vsI_set, List.set_set] at HC2
        have HB2 := Lib.hid (HB1.out.setCell (p := ⟨w.heap.size, k, none⟩) (by simp) (.int .i64 0))
        clear hq HNx HS HC HB
        go_wp2
        go_roundw
        case rel => exact ⟨k + 1, _, by go_num, by omega, HN2.out, HC2.out, HB2.out⟩
        case measure => simp [intOf]; omega
      · have hqe : (s.toList == a.toList) = false := by rw [Bool.eq_false_iff]; intro z; exact hq ((Lib.bytes_beq_iff _ _).1 z)
        have HN2 := Lib.hid (HNx.out (-1) (by rw [if_neg hq]))
        clear hq HNx HS HC HB
        go_wp2
        go_roundw
        case rel => exact ⟨k + 1, _, by go_num, by omega, HN2.out, HC1.out, HB1.out⟩
        case measure => simp [intOf]; omega
    · have HT := Lib.hid (Tab.start (R := Met ds) (a := a) HS.out.1 (fun m s hs => HS.out.2 m s (by have := (List.getElem?_eq_some_iff.1 hs).1; omega) hs))
      clear hk HS
      go_wp2
      clear hlt
      obtain ⟨wo, hwo⟩ : ∃ wo, wo = wr := ⟨_, rfl⟩
      rw [← hwo] at HC HB ⊢
      clear hwo
      go_loopw [9] (fun ti wr => ∃ (k : Nat) (out : List Int), ti = .int .i64 k ∧ k ≤ ps.length ∧ Hid (Tab (Met ds) a ps k (fun i' m' => False) out) ∧ Hid (Cel wr w.heap.size 3 (vsI out)) ∧ Hid (Below w.heap.size w wr)) (fun ti _ => ps.length - (intOf ti).toNat)
      case atStart => exact ⟨0, out, rfl, by omega, HT.out.mono (fun _ _ q => q), HC.out, HB.out⟩
      case round =>
        clear HT HC HB
        obtain ⟨k, out, rfl, hk, HT, HC, HB⟩ := hrel
        obtain ⟨wo, hwo⟩ : ∃ wo, wo = wr := ⟨_, rfl⟩
        rw [← hwo] at HC HB ⊢
        clear hwo
        by_cases hlk : k < ps.length
        · have hki : (k : Int) < (ps.length : Int) := by omega
          have hk0 : (0 : Int) ≤ (k : Int) := by omega
          go_wp2
          go_loopw [10] (fun ti wr => ∃ (i : Nat) (out : List Int), ti = .int .i64 i ∧ i ≤ ps.length ∧ Hid (Tab (Met ds) a ps k (fun i' m' => m' < i) out) ∧ Hid (Cel wr w.heap.size 3 (vsI out)) ∧ Hid (Below w.heap.size w wr)) (fun ti _ => ps.length - (intOf ti).toNat)
          case atStart => exact ⟨0, out, rfl, by omega, HT.out.mono (fun _ _ q => absurd q (Nat.not_lt_zero _)), HC.out, HB.out⟩
          case round =>
            clear HT HC HB
            obtain ⟨i, out, rfl, hi, HT, HC, HB⟩ := hrel
            obtain ⟨wp, hwp⟩ : ∃ wp, wp = wr := ⟨_, rfl⟩
            rw [← hwp] at HC HB ⊢
            clear hwp
            by_cases hli : i < ps.length
            · have hii : (i : Int) < (ps.length : Int) := by omega
              have hi0 : (0 : Int) ≤ (i : Int) := by omega
              go_wp2
              go_loopw [11] (fun ti wr => ∃ (j : Nat) (out : List Int), ti = .int .i64 j ∧ j ≤ ps.length ∧ Hid (Tab (Met ds) a ps k (fun i' m' => m' < i ∨ (m' = i ∧ i' < j)) out) ∧ Hid (Cel wr w.heap.size 3 (vsI out)) ∧ Hid (Below w.heap.size w wr)) (fun ti _ => ps.length - (intOf ti).toNat)
              case atStart => exact ⟨0, out, rfl, by omega, HT.out.mono (fun _ _ q => q.elim id (fun z => absurd z.2 (Nat.not_lt_zero _))), HC.out, HB.out⟩
              case round =>
                clear HT HC HB
                obtain ⟨j, out, rfl, hj, HT, HC, HB⟩ := hrel
                obtain ⟨x, hx, hxr⟩ := tab_val HT.out hli
                have x0 := HC.out.cell i _ (vsI_get hx)
                have x1 := HC.out.frozen i
                by_cases hneg : x < 0
                · obtain rfl : x = -1 := by omega
                  have q0 : decide ((-1 : Int) < 0) = true := rfl
                  by_cases hlj : j < ps.length
                  · have hji : (j : Int) < (ps.length : Int) := by omega
                    have hj0 : (0 : Int) ≤ (j : Int) := by omega
                    have hjd : decide ((j : Int) < (ps.length : Int)) = true := decide_eq_true hji
                    obtain ⟨y, hy, hyr⟩ := tab_val HT.out hlj
                    have hgi : ps[i]? = some ps[i] := List.getElem?_eq_getElem hli
                    have hgj : ps[j]? = some ps[j] := List.getElem?_eq_getElem hlj
                    have HLev := Lib.hid (HT.out.level hgj)
                    have HSk := Lib.hid (fun hn => (HT.out.skip j i (E := fun i' m' => m' < i ∨ (m' = i ∧ i' < j + 1)) (fun i' m' q => by rcases q with q | ⟨q1, q2⟩; exact .inl (.inl q); rcases Nat.lt_succ_iff_lt_or_eq.1 q2 with z | z; exact .inl (.inr ⟨q1, z⟩); exact .inr ⟨z, q1⟩) hn))
                    have HTk := Lib.hid (fun hl ho hr => (HT.out.take hgj hgi (E := fun i' m' => m' < i ∨ (m' = i ∧ i' < j + 1)) (fun i' m' q z => by rcases q with q | ⟨q1, q2⟩; exact .inl q; exact absurd q1 z) hl ho hr))
                    have hid1 : ∀ r s, ps[j]? = some r → ps[i]? = some s → r = ps[j] ∧ s = ps[i] := fun r s hr hs => by rw [hgj] at hr; rw [hgi] at hs; cases hr; cases hs; exact ⟨rfl, rfl⟩
                    have HId := Lib.hid hid1
                    have c1 := below_cell HB.out (HCe.out i _ hgi)
                    have c2 := below_cell HB.out (HCe.out j _ hgj)
                    have y0 := HC.out.cell j _ (vsI_get hy)
                    have HX := Lib.hid hx
                    have HYv := Lib.hid hy
                    clear hx hy hgi hgj hid1
                    generalize ps[i] = s at *
                    generalize ps[j] = r at *
                    have HTs := Lib.hid (HTo.out s r)
                    by_cases hyk : y = (k : Int)
                    · subst hyk
                      have hLk := HLev.out.1 HYv.out
                      have q1 : ((k : Int) == (k : Int)) = true := by simp
                      have q1' : (k == k) = true := by simp
                      have HLk := Lib.hid hLk
                      have HMt := Lib.hid (show 0 < togF ds s r ↔ Met ds r s from tog_met.trans ⟨Met.symm, Met.symm⟩)
                      generalize togF ds s r = T at *
                      clear hLk hxr hyr HLev hneg
                      go_upto_region 17 with fail
                      by_cases ht : 0 < T
                      · have d1 : decide ((0 : Int) < (T : Int)) = true := decide_eq_true (by omega)
                        have d2 : decide (0 < T) = true := decide_eq_true (by omega)
                        refine wp_region_held_drew (S := fun w' => Below wr.heap.size wr w') (by kernel_rfl) (below_drew (Below.refl _ _)) (fun hHeld => ?_)
                        refine wpAnyH_takeD (i := 0) (v := ?_) 58 rfl (by kernel_rfl) (by kernel_rfl) (by kernel_rfl) (fun _ _ _ h => h) (Or.inl ⟨by rfl, ?_⟩) (by assumption) rfl ?_
                        rotate_left
                        · intro w' hSw
                          have y0 := below_cell hSw y0; have c1 := below_cell hSw c1; have c2 := below_cell hSw c2
                          go_simp <;> with_reducible rfl
                        simp only [List.setIfInBounds_toArray, List.set_cons_succ, List.set_cons_zero]
                        refine wpAnyH_takeD (i := 1) (v := ?_) 59 rfl (by kernel_rfl) (by kernel_rfl) (by kernel_rfl) (fun _ _ _ h => h) (Or.inl ⟨by rfl, ?_⟩) (by assumption) rfl ?_
                        rotate_left
                        · intro w' hSw
                          have y0 := below_cell hSw y0; have c1 := below_cell hSw c1; have c2 := below_cell hSw c2
                          go_simp <;> with_reducible rfl
                        simp only [List.setIfInBounds_toArray, List.set_cons_succ, List.set_cons_zero]
                        refine wpAnyH_takeD (i := 2) (v := ?_) 60 rfl (by kernel_rfl) (by kernel_rfl) (by kernel_rfl) (fun _ _ _ h => h) (Or.inl ⟨by rfl, ?_⟩) (by assumption) rfl ?_
                        rotate_left
                        · intro w' hSw
                          have y0 := below_cell hSw y0; have c1 := below_cell hSw c1; have c2 := below_cell hSw c2
                          go_simp <;> with_reducible rfl
                        simp only [List.setIfInBounds_toArray, List.set_cons_succ, List.set_cons_zero]
                        refine wpAnyH_takeD (i := 3) (v := ?_) 61 rfl (by kernel_rfl) (by kernel_rfl) (by kernel_rfl) (fun _ _ _ h => h) (Or.inl ⟨by rfl, ?_⟩) (by assumption) rfl ?_
                        rotate_left
                        · intro w' hSw
                          have y0 := below_cell hSw y0; have c1 := below_cell hSw c1; have c2 := below_cell hSw c2
                          go_simp <;> with_reducible rfl
                        simp only [List.setIfInBounds_toArray, List.set_cons_succ, List.set_cons_zero]
                        refine wpAnyH_takeD (i := 4) (v := ?_) 62 rfl (by kernel_rfl) (by kernel_rfl) (by kernel_rfl) (fun _ _ _ h => h) (Or.inl ⟨by rfl, ?_⟩) (by assumption) rfl ?_
                        rotate_left
                        · intro w' hSw
                          have y0 := below_cell hSw y0; have c1 := below_cell hSw c1; have c2 := below_cell hSw c2
                          go_simp <;> with_reducible rfl
                        simp only [List.setIfInBounds_toArray, List.set_cons_succ, List.set_cons_zero]
                        refine wpAnyH_takeD (i := 5) (v := ?_) 63 rfl (by kernel_rfl) (by kernel_rfl) (by kernel_rfl) (fun _ _ _ h => h) (Or.inl ⟨by rfl, ?_⟩) (by assumption) rfl ?_
                        rotate_left
                        · intro w' hSw
                          have y0 := below_cell hSw y0; have c1 := below_cell hSw c1; have c2 := below_cell hSw c2
                          go_simp <;> with_reducible rfl
                        simp only [List.setIfInBounds_toArray, List.set_cons_succ, List.set_cons_zero]
                        refine wpAnyH_takeD (i := 6) (v := ?_) 64 rfl (by kernel_rfl) (by kernel_rfl) (by kernel_rfl) (fun _ _ _ h => h) (Or.inl ⟨by rfl, ?_⟩) (by assumption) rfl ?_
                        rotate_left
                        · intro w' hSw
                          have y0 := below_cell hSw y0; have c1 := below_cell hSw c1; have c2 := below_cell hSw c2
                          go_simp <;> with_reducible rfl
                        simp only [List.setIfInBounds_toArray, List.set_cons_succ, List.set_cons_zero]
                        refine wpAnyH_takeD (i := 7) (v := ?_) 65 rfl (by kernel_rfl) (by kernel_rfl) (by kernel_rfl) (fun _ _ _ h => h) (Or.inl ⟨by rfl, ?_⟩) (by assumption) rfl ?_
                        rotate_left
                        · intro w' hSw
                          have y0 := below_cell hSw y0; have c1 := below_cell hSw c1; have c2 := below_cell hSw c2
                          go_simp <;> with_reducible rfl
                        simp only [List.setIfInBounds_toArray, List.set_cons_succ, List.set_cons_zero]
                        refine wpAnyH_takeD (i := 8) (v := ?_) 66 rfl (by kernel_rfl) (by kernel_rfl) (by kernel_rfl) (fun _ _ _ h => h) (Or.inl ⟨by rfl, ?_⟩) (by assumption) rfl ?_
                        rotate_left
                        · intro w' hSw
                          have y0 := below_cell hSw y0; have c1 := below_cell hSw c1; have c2 := below_cell hSw c2
                          go_simp <;> with_reducible rfl
                        simp only [List.setIfInBounds_toArray, List.set_cons_succ, List.set_cons_zero]
                        refine wpAnyH_takeD (i := 9) (v := ?_) 67 rfl (by kernel_rfl) (by kernel_rfl) (by kernel_rfl) (fun _ _ _ h => h) (Or.inl ⟨by rfl, ?_⟩) (by assumption) rfl ?_
                        rotate_left
                        · intro w' hSw
                          have y0 := below_cell hSw y0; have c1 := below_cell hSw c1; have c2 := below_cell hSw c2
                          go_simp <;> with_reducible rfl
                        simp only [List.setIfInBounds_toArray, List.set_cons_succ, List.set_cons_zero]
                        refine wpAnyH_takeD (i := 10) (v := ?_) 68 rfl (by kernel_rfl) (by kernel_rfl) (by kernel_rfl) (fun _ _ _ h => h) (Or.inl ⟨by rfl, ?_⟩) (by assumption) rfl ?_
                        rotate_left
                        · intro w' hSw
                          have y0 := below_cell hSw y0; have c1 := below_cell hSw c1; have c2 := below_cell hSw c2
                          go_simp <;> with_reducible rfl
                        simp only [List.setIfInBounds_toArray, List.set_cons_succ, List.set_cons_zero]
                        refine wpAnyH_takeD (i := 11) (v := ?_) 69 rfl (by kernel_rfl) (by kernel_rfl) (by kernel_rfl) (fun _ _ _ h => h) (Or.inl ⟨by rfl, ?_⟩) (by assumption) rfl ?_
                        rotate_left
                        · intro w' hSw
                          have y0 := below_cell hSw y0; have c1 := below_cell hSw c1; have c2 := below_cell hSw c2
                          go_simp <;> with_reducible rfl
                        simp only [List.setIfInBounds_toArray, List.set_cons_succ, List.set_cons_zero]
                        refine wpAnyH_takeD (i := 12) (v := ?_) 70 rfl (by kernel_rfl) (by kernel_rfl) (by kernel_rfl) (fun _ _ _ h => h) (Or.inl ⟨by rfl, ?_⟩) (by assumption) rfl ?_
                        rotate_left
                        · intro w' hSw
                          have y0 := below_cell hSw y0; have c1 := below_cell hSw c1; have c2 := below_cell hSw c2
                          go_simp <;> with_reducible rfl
                        simp only [List.setIfInBounds_toArray, List.set_cons_succ, List.set_cons_zero]
                        refine wpAnyH_takeD (i := 13) (v := ?_) 71 rfl (by kernel_rfl) (by kernel_rfl) (by kernel_rfl) (fun _ _ _ h => h) (Or.inl ⟨by rfl, ?_⟩) (by assumption) rfl ?_
                        rotate_left
                        · intro w' hSw
                          have y0 := below_cell hSw y0; have c1 := below_cell hSw c1; have c2 := below_cell hSw c2
                          go_simp <;> with_reducible rfl
                        simp only [List.setIfInBounds_toArray, List.set_cons_succ, List.set_cons_zero]
                        refine wpAnyH_takeD (i := 14) (v := ?_) 72 rfl (by kernel_rfl) (by kernel_rfl) (by kernel_rfl) (fun _ _ _ h => h) (Or.inl ⟨by rfl, ?_⟩) (by assumption) rfl ?_
                        rotate_left
                        · intro w' hSw
                          have y0 := below_cell hSw y0; have c1 := below_cell hSw c1; have c2 := below_cell hSw c2
                          go_simp <;> with_reducible rfl
                        simp only [List.setIfInBounds_toArray, List.set_cons_succ, List.set_cons_zero]
                        refine wpAnyH_takeD (i := 15) (v := ?_) 73 rfl (by kernel_rfl) (by kernel_rfl) (by kernel_rfl) (fun _ _ _ h => h) (Or.inl ⟨by rfl, ?_⟩) (by assumption) rfl ?_
                        rotate_left
                        · intro w' hSw
                          have y0 := below_cell hSw y0; have c1 := below_cell hSw c1; have c2 := below_cell hSw c2
                          go_simp <;> with_reducible rfl
                        simp only [List.setIfInBounds_toArray, List.set_cons_succ, List.set_cons_zero]
                        refine wpAnyH_ready (rs := [16]) (by kernel_rfl) (by simp) ?_
                        refine AllReadyH.cons (o := _) rfl (fun K hK => ?_) AllReadyH.nil
                        go_simp
                        go_at_call 70
                        refine (HTs.out _ (HB.out.trans (hHeld.mono HB.out.size))).mono ?_
                        rintro e w41 ⟨rfl, hb41⟩
                        have HV41 := Lib.hid (hHeld.trans (hb41.mono hHeld.size))
                        clear hb41
                        refine hK.out _ _ HV41.out (fun hHeld2 => ?_)
                        clear hK K
                        refine wpAnyH_takeD (i := 17) (v := ?_) 75 rfl (by kernel_rfl) (by kernel_rfl) (by kernel_rfl) (fun _ _ _ h => h) (Or.inl ⟨by rfl, ?_⟩) (by assumption) rfl ?_
                        rotate_left
                        · intro w' hSw
                          have y0 := below_cell hSw y0; have c1 := below_cell hSw c1; have c2 := below_cell hSw c2
                          go_simp <;> with_reducible rfl
                        simp only [List.setIfInBounds_toArray, List.set_cons_succ, List.set_cons_zero]
                        refine wpAnyH_takeD (i := 18) (v := ?_) 76 rfl (by kernel_rfl) (by kernel_rfl) (by kernel_rfl) (fun _ _ _ h => h) (Or.inl ⟨by rfl, ?_⟩) (by assumption) rfl ?_
                        rotate_left
                        · intro w' hSw
                          have y0 := below_cell hSw y0; have c1 := below_cell hSw c1; have c2 := below_cell hSw c2
                          go_simp <;> with_reducible rfl
                        simp only [List.setIfInBounds_toArray, List.set_cons_succ, List.set_cons_zero]
                        refine wpAnyH_done (by kernel_rfl) ?_ _
                        clear hHeld hHeld2
                        have HC1 := Lib.hid (HC.out.below HC.out.lt HV41.out)
                        have HB1 := Lib.hid (HB.out.trans (HV41.out.mono HB.out.size))
                        clear c1 c2 x0 x1 y0 HC HB HV41
                        have x0 := HC1.out.cell i _ (vsI_get HX.out)
                        have x1 := HC1.out.frozen i
                        have HC2 := Lib.hid (HC1.out.setAt i (.int .i64 ((k : Int) + 1)))
                        rw [vsI_set] at HC2
                        have HB2 := Lib.hid (HB1.out.setCell (p := ⟨w.heap.size, i, none⟩) (by simp) (.int .i64 ((k : Int) + 1)))
                        have HT2 := Lib.hid (HTk.out HLk.out HX.out (HMt.out.1 ht))
                        have hkw : IntKind.i64.wrap ((k : Int) + 1) = (k : Int) + 1 := by rw [IntWalk.i64_in _ (by omega)]
                        go_wp2
                        exact ⟨⟨j + 1, _, by go_num, by omega, HT2.out, HC2.out, HB2.out⟩, by simp [intOf]; omega⟩
                      · have d1 : decide ((0 : Int) < (T : Int)) = false := decide_eq_false (by omega)
                        have d2 : decide (0 < T) = false := decide_eq_false (by omega)
                        refine wp_region_held_drew (S := fun w' => Below wr.heap.size wr w') (by kernel_rfl) (below_drew (Below.refl _ _)) (fun hHeld => ?_)
                        refine wpAnyH_takeD (i := 0) (v := ?_) 58 rfl (by kernel_rfl) (by kernel_rfl) (by kernel_rfl) (fun _ _ _ h => h) (Or.inl ⟨by rfl, ?_⟩) (by assumption) rfl ?_
                        rotate_left
                        · intro w' hSw
                          have y0 := below_cell hSw y0; have c1 := below_cell hSw c1; have c2 := below_cell hSw c2
                          go_simp <;> with_reducible rfl
                        simp only [List.setIfInBounds_toArray, List.set_cons_succ, List.set_cons_zero]
                        refine wpAnyH_takeD (i := 1) (v := ?_) 59 rfl (by kernel_rfl) (by kernel_rfl) (by kernel_rfl) (fun _ _ _ h => h) (Or.inl ⟨by rfl, ?_⟩) (by assumption) rfl ?_
                        rotate_left
                        · intro w' hSw
                          have y0 := below_cell hSw y0; have c1 := below_cell hSw c1; have c2 := below_cell hSw c2
                          go_simp <;> with_reducible rfl
                        simp only [List.setIfInBounds_toArray, List.set_cons_succ, List.set_cons_zero]
                        refine wpAnyH_takeD (i := 2) (v := ?_) 60 rfl (by kernel_rfl) (by kernel_rfl) (by kernel_rfl) (fun _ _ _ h => h) (Or.inl ⟨by rfl, ?_⟩) (by assumption) rfl ?_
                        rotate_left
                        · intro w' hSw
                          have y0 := below_cell hSw y0; have c1 := below_cell hSw c1; have c2 := below_cell hSw c2
                          go_simp <;> with_reducible rfl
                        simp only [List.setIfInBounds_toArray, List.set_cons_succ, List.set_cons_zero]
                        refine wpAnyH_takeD (i := 3) (v := ?_) 61 rfl (by kernel_rfl) (by kernel_rfl) (by kernel_rfl) (fun _ _ _ h => h) (Or.inl ⟨by rfl, ?_⟩) (by assumption) rfl ?_
                        rotate_left
                        · intro w' hSw
                          have y0 := below_cell hSw y0; have c1 := below_cell hSw c1; have c2 := below_cell hSw c2
                          go_simp <;> with_reducible rfl
                        simp only [List.setIfInBounds_toArray, List.set_cons_succ, List.set_cons_zero]
                        refine wpAnyH_takeD (i := 4) (v := ?_) 62 rfl (by kernel_rfl) (by kernel_rfl) (by kernel_rfl) (fun _ _ _ h => h) (Or.inl ⟨by rfl, ?_⟩) (by assumption) rfl ?_
                        rotate_left
                        · intro w' hSw
                          have y0 := below_cell hSw y0; have c1 := below_cell hSw c1; have c2 := below_cell hSw c2
                          go_simp <;> with_reducible rfl
                        simp only [List.setIfInBounds_toArray, List.set_cons_succ, List.set_cons_zero]
                        refine wpAnyH_takeD (i := 5) (v := ?_) 63 rfl (by kernel_rfl) (by kernel_rfl) (by kernel_rfl) (fun _ _ _ h => h) (Or.inl ⟨by rfl, ?_⟩) (by assumption) rfl ?_
                        rotate_left
                        · intro w' hSw
                          have y0 := below_cell hSw y0; have c1 := below_cell hSw c1; have c2 := below_cell hSw c2
                          go_simp <;> with_reducible rfl
                        simp only [List.setIfInBounds_toArray, List.set_cons_succ, List.set_cons_zero]
                        refine wpAnyH_takeD (i := 6) (v := ?_) 64 rfl (by kernel_rfl) (by kernel_rfl) (by kernel_rfl) (fun _ _ _ h => h) (Or.inl ⟨by rfl, ?_⟩) (by assumption) rfl ?_
                        rotate_left
                        · intro w' hSw
                          have y0 := below_cell hSw y0; have c1 := below_cell hSw c1; have c2 := below_cell hSw c2
                          go_simp <;> with_reducible rfl
                        simp only [List.setIfInBounds_toArray, List.set_cons_succ, List.set_cons_zero]
                        refine wpAnyH_takeD (i := 7) (v := ?_) 65 rfl (by kernel_rfl) (by kernel_rfl) (by kernel_rfl) (fun _ _ _ h => h) (Or.inl ⟨by rfl, ?_⟩) (by assumption) rfl ?_
                        rotate_left
                        · intro w' hSw
                          have y0 := below_cell hSw y0; have c1 := below_cell hSw c1; have c2 := below_cell hSw c2
                          go_simp <;> with_reducible rfl
                        simp only [List.setIfInBounds_toArray, List.set_cons_succ, List.set_cons_zero]
                        refine wpAnyH_takeD (i := 8) (v := ?_) 66 rfl (by kernel_rfl) (by kernel_rfl) (by kernel_rfl) (fun _ _ _ h => h) (Or.inl ⟨by rfl, ?_⟩) (by assumption) rfl ?_
                        rotate_left
                        · intro w' hSw
                          have y0 := below_cell hSw y0; have c1 := below_cell hSw c1; have c2 := below_cell hSw c2
                          go_simp <;> with_reducible rfl
                        simp only [List.setIfInBounds_toArray, List.set_cons_succ, List.set_cons_zero]
                        refine wpAnyH_takeD (i := 9) (v := ?_) 67 rfl (by kernel_rfl) (by kernel_rfl) (by kernel_rfl) (fun _ _ _ h => h) (Or.inl ⟨by rfl, ?_⟩) (by assumption) rfl ?_
                        rotate_left
                        · intro w' hSw
                          have y0 := below_cell hSw y0; have c1 := below_cell hSw c1; have c2 := below_cell hSw c2
                          go_simp <;> with_reducible rfl
                        simp only [List.setIfInBounds_toArray, List.set_cons_succ, List.set_cons_zero]
                        refine wpAnyH_takeD (i := 10) (v := ?_) 68 rfl (by kernel_rfl) (by kernel_rfl) (by kernel_rfl) (fun _ _ _ h => h) (Or.inl ⟨by rfl, ?_⟩) (by assumption) rfl ?_
                        rotate_left
                        · intro w' hSw
                          have y0 := below_cell hSw y0; have c1 := below_cell hSw c1; have c2 := below_cell hSw c2
                          go_simp <;> with_reducible rfl
                        simp only [List.setIfInBounds_toArray, List.set_cons_succ, List.set_cons_zero]
                        refine wpAnyH_takeD (i := 11) (v := ?_) 69 rfl (by kernel_rfl) (by kernel_rfl) (by kernel_rfl) (fun _ _ _ h => h) (Or.inl ⟨by rfl, ?_⟩) (by assumption) rfl ?_
                        rotate_left
                        · intro w' hSw
                          have y0 := below_cell hSw y0; have c1 := below_cell hSw c1; have c2 := below_cell hSw c2
                          go_simp <;> with_reducible rfl
                        simp only [List.setIfInBounds_toArray, List.set_cons_succ, List.set_cons_zero]
                        refine wpAnyH_takeD (i := 12) (v := ?_) 70 rfl (by kernel_rfl) (by kernel_rfl) (by kernel_rfl) (fun _ _ _ h => h) (Or.inl ⟨by rfl, ?_⟩) (by assumption) rfl ?_
                        rotate_left
                        · intro w' hSw
                          have y0 := below_cell hSw y0; have c1 := below_cell hSw c1; have c2 := below_cell hSw c2
                          go_simp <;> with_reducible rfl
                        simp only [List.setIfInBounds_toArray, List.set_cons_succ, List.set_cons_zero]
                        refine wpAnyH_takeD (i := 13) (v := ?_) 71 rfl (by kernel_rfl) (by kernel_rfl) (by kernel_rfl) (fun _ _ _ h => h) (Or.inl ⟨by rfl, ?_⟩) (by assumption) rfl ?_
                        rotate_left
                        · intro w' hSw
                          have y0 := below_cell hSw y0; have c1 := below_cell hSw c1; have c2 := below_cell hSw c2
                          go_simp <;> with_reducible rfl
                        simp only [List.setIfInBounds_toArray, List.set_cons_succ, List.set_cons_zero]
                        refine wpAnyH_takeD (i := 14) (v := ?_) 72 rfl (by kernel_rfl) (by kernel_rfl) (by kernel_rfl) (fun _ _ _ h => h) (Or.inl ⟨by rfl, ?_⟩) (by assumption) rfl ?_
                        rotate_left
                        · intro w' hSw
                          have y0 := below_cell hSw y0; have c1 := below_cell hSw c1; have c2 := below_cell hSw c2
                          go_simp <;> with_reducible rfl
                        simp only [List.setIfInBounds_toArray, List.set_cons_succ, List.set_cons_zero]
                        refine wpAnyH_takeD (i := 15) (v := ?_) 73 rfl (by kernel_rfl) (by kernel_rfl) (by kernel_rfl) (fun _ _ _ h => h) (Or.inl ⟨by rfl, ?_⟩) (by assumption) rfl ?_
                        rotate_left
                        · intro w' hSw
                          have y0 := below_cell hSw y0; have c1 := below_cell hSw c1; have c2 := below_cell hSw c2
                          go_simp <;> with_reducible rfl
                        simp only [List.setIfInBounds_toArray, List.set_cons_succ, List.set_cons_zero]
                        refine wpAnyH_ready (rs := [16]) (by kernel_rfl) (by simp) ?_
                        refine AllReadyH.cons (o := _) rfl (fun K hK => ?_) AllReadyH.nil
                        go_simp
                        go_at_call 70
                        refine (HTs.out _ (HB.out.trans (hHeld.mono HB.out.size))).mono ?_
                        rintro e w41 ⟨rfl, hb41⟩
                        have HV41 := Lib.hid (hHeld.trans (hb41.mono hHeld.size))
                        clear hb41
                        refine hK.out _ _ HV41.out (fun hHeld2 => ?_)
                        clear hK K
                        refine wpAnyH_takeD (i := 17) (v := ?_) 75 rfl (by kernel_rfl) (by kernel_rfl) (by kernel_rfl) (fun _ _ _ h => h) (Or.inl ⟨by rfl, ?_⟩) (by assumption) rfl ?_
                        rotate_left
                        · intro w' hSw
                          have y0 := below_cell hSw y0; have c1 := below_cell hSw c1; have c2 := below_cell hSw c2
                          go_simp <;> with_reducible rfl
                        simp only [List.setIfInBounds_toArray, List.set_cons_succ, List.set_cons_zero]
                        refine wpAnyH_takeD (i := 18) (v := ?_) 76 rfl (by kernel_rfl) (by kernel_rfl) (by kernel_rfl) (fun _ _ _ h => h) (Or.inl ⟨by rfl, ?_⟩) (by assumption) rfl ?_
                        rotate_left
                        · intro w' hSw
                          have y0 := below_cell hSw y0; have c1 := below_cell hSw c1; have c2 := below_cell hSw c2
                          go_simp <;> with_reducible rfl
                        simp only [List.setIfInBounds_toArray, List.set_cons_succ, List.set_cons_zero]
                        refine wpAnyH_done (by kernel_rfl) ?_ _
                        clear hHeld hHeld2
                        have HC1 := Lib.hid (HC.out.below HC.out.lt HV41.out)
                        have HB1 := Lib.hid (HB.out.trans (HV41.out.mono HB.out.size))
                        clear c1 c2 x0 x1 y0 HC HB HV41
                        have HT2 := Lib.hid (HSk.out (fun r' s' hr hs _ _ => by obtain ⟨rfl, rfl⟩ := HId.out r' s' hr hs; exact fun z => ht (HMt.out.2 z)))
                        go_wp2
                        exact ⟨⟨j + 1, _, by go_num, by omega, HT2.out, HC1.out, HB1.out⟩, by simp [intOf]; omega⟩
                    · have q1 : (y == (k : Int)) = false := beq_eq_false_iff_ne.2 hyk
                      have HT2 := Lib.hid (HSk.out (fun r' s' hr hs _ hl => by obtain ⟨rfl, _⟩ := HId.out r' s' hr hs; exact absurd (Option.some.inj (HYv.out.symm.trans (HLev.out.2 hl))) hyk))
                      clear hyk hxr hyr HLev hneg
                      go_upto_region 17 with fail
                      refine wp_region_held_drew (S := fun w' => Below wr.heap.size wr w') (by kernel_rfl) (below_drew (Below.refl _ _)) (fun hHeld => ?_)
                      refine wpAnyH_takeD (i := 0) (v := ?_) 58 rfl (by kernel_rfl) (by kernel_rfl) (by kernel_rfl) (fun _ _ _ h => h) (Or.inl ⟨by rfl, ?_⟩) (by assumption) rfl ?_
                      rotate_left
                      · intro w' hSw
                        have y0 := below_cell hSw y0; have c1 := below_cell hSw c1; have c2 := below_cell hSw c2
                        go_simp <;> with_reducible rfl
                      simp only [List.setIfInBounds_toArray, List.set_cons_succ, List.set_cons_zero]
                      refine wpAnyH_takeD (i := 1) (v := ?_) 59 rfl (by kernel_rfl) (by kernel_rfl) (by kernel_rfl) (fun _ _ _ h => h) (Or.inl ⟨by rfl, ?_⟩) (by assumption) rfl ?_
                      rotate_left
                      · intro w' hSw
                        have y0 := below_cell hSw y0; have c1 := below_cell hSw c1; have c2 := below_cell hSw c2
                        go_simp <;> with_reducible rfl
                      simp only [List.setIfInBounds_toArray, List.set_cons_succ, List.set_cons_zero]
                      refine wpAnyH_takeD (i := 2) (v := ?_) 60 rfl (by kernel_rfl) (by kernel_rfl) (by kernel_rfl) (fun _ _ _ h => h) (Or.inl ⟨by rfl, ?_⟩) (by assumption) rfl ?_
                      rotate_left
                      · intro w' hSw
                        have y0 := below_cell hSw y0; have c1 := below_cell hSw c1; have c2 := below_cell hSw c2
                        go_simp <;> with_reducible rfl
                      simp only [List.setIfInBounds_toArray, List.set_cons_succ, List.set_cons_zero]
                      refine wpAnyH_takeD (i := 3) (v := ?_) 61 rfl (by kernel_rfl) (by kernel_rfl) (by kernel_rfl) (fun _ _ _ h => h) (Or.inl ⟨by rfl, ?_⟩) (by assumption) rfl ?_
                      rotate_left
                      · intro w' hSw
                        have y0 := below_cell hSw y0; have c1 := below_cell hSw c1; have c2 := below_cell hSw c2
                        go_simp <;> with_reducible rfl
                      simp only [List.setIfInBounds_toArray, List.set_cons_succ, List.set_cons_zero]
                      refine wpAnyH_takeD (i := 4) (v := ?_) 62 rfl (by kernel_rfl) (by kernel_rfl) (by kernel_rfl) (fun _ _ _ h => h) (Or.inl ⟨by rfl, ?_⟩) (by assumption) rfl ?_
                      rotate_left
                      · intro w' hSw
                        have y0 := below_cell hSw y0; have c1 := below_cell hSw c1; have c2 := below_cell hSw c2
                        go_simp <;> with_reducible rfl
                      simp only [List.setIfInBounds_toArray, List.set_cons_succ, List.set_cons_zero]
                      refine wpAnyH_takeD (i := 5) (v := ?_) 63 rfl (by kernel_rfl) (by kernel_rfl) (by kernel_rfl) (fun _ _ _ h => h) (Or.inl ⟨by rfl, ?_⟩) (by assumption) rfl ?_
                      rotate_left
                      · intro w' hSw
                        have y0 := below_cell hSw y0; have c1 := below_cell hSw c1; have c2 := below_cell hSw c2
                        go_simp <;> with_reducible rfl
                      simp only [List.setIfInBounds_toArray, List.set_cons_succ, List.set_cons_zero]
                      refine wpAnyH_takeD (i := 6) (v := ?_) 64 rfl (by kernel_rfl) (by kernel_rfl) (by kernel_rfl) (fun _ _ _ h => h) (Or.inl ⟨by rfl, ?_⟩) (by assumption) rfl ?_
                      rotate_left
                      · intro w' hSw
                        have y0 := below_cell hSw y0; have c1 := below_cell hSw c1; have c2 := below_cell hSw c2
                        go_simp <;> with_reducible rfl
                      simp only [List.setIfInBounds_toArray, List.set_cons_succ, List.set_cons_zero]
                      refine wpAnyH_takeD (i := 7) 65 rfl (by kernel_rfl) (by kernel_rfl) (by kernel_rfl) (fun _ _ _ h => h) (Or.inr ⟨by kernel_rfl, rfl⟩) (by assumption) rfl ?_
                      simp only [List.setIfInBounds_toArray, List.set_cons_succ, List.set_cons_zero]
                      refine wpAnyH_takeD (i := 8) 66 rfl (by kernel_rfl) (by kernel_rfl) (by kernel_rfl) (fun _ _ _ h => h) (Or.inr ⟨by kernel_rfl, rfl⟩) (by assumption) rfl ?_
                      simp only [List.setIfInBounds_toArray, List.set_cons_succ, List.set_cons_zero]
                      refine wpAnyH_takeD (i := 9) 67 rfl (by kernel_rfl) (by kernel_rfl) (by kernel_rfl) (fun _ _ _ h => h) (Or.inr ⟨by kernel_rfl, rfl⟩) (by assumption) rfl ?_
                      simp only [List.setIfInBounds_toArray, List.set_cons_succ, List.set_cons_zero]
                      refine wpAnyH_takeD (i := 10) 68 rfl (by kernel_rfl) (by kernel_rfl) (by kernel_rfl) (fun _ _ _ h => h) (Or.inr ⟨by kernel_rfl, rfl⟩) (by assumption) rfl ?_
                      simp only [List.setIfInBounds_toArray, List.set_cons_succ, List.set_cons_zero]
                      refine wpAnyH_takeD (i := 11) 69 rfl (by kernel_rfl) (by kernel_rfl) (by kernel_rfl) (fun _ _ _ h => h) (Or.inr ⟨by kernel_rfl, rfl⟩) (by assumption) rfl ?_
                      simp only [List.setIfInBounds_toArray, List.set_cons_succ, List.set_cons_zero]
                      refine wpAnyH_takeD (i := 12) 70 rfl (by kernel_rfl) (by kernel_rfl) (by kernel_rfl) (fun _ _ _ h => h) (Or.inr ⟨by kernel_rfl, rfl⟩) (by assumption) rfl ?_
                      simp only [List.setIfInBounds_toArray, List.set_cons_succ, List.set_cons_zero]
                      refine wpAnyH_takeD (i := 13) 71 rfl (by kernel_rfl) (by kernel_rfl) (by kernel_rfl) (fun _ _ _ h => h) (Or.inr ⟨by kernel_rfl, rfl⟩) (by assumption) rfl ?_
                      simp only [List.setIfInBounds_toArray, List.set_cons_succ, List.set_cons_zero]
                      refine wpAnyH_takeD (i := 14) 72 rfl (by kernel_rfl) (by kernel_rfl) (by kernel_rfl) (fun _ _ _ h => h) (Or.inr ⟨by kernel_rfl, rfl⟩) (by assumption) rfl ?_
                      simp only [List.setIfInBounds_toArray, List.set_cons_succ, List.set_cons_zero]
                      refine wpAnyH_takeD (i := 15) 73 rfl (by kernel_rfl) (by kernel_rfl) (by kernel_rfl) (fun _ _ _ h => h) (Or.inr ⟨by kernel_rfl, rfl⟩) (by assumption) rfl ?_
                      simp only [List.setIfInBounds_toArray, List.set_cons_succ, List.set_cons_zero]
                      refine wpAnyH_takeD (i := 16) 74 rfl (by kernel_rfl) (by kernel_rfl) (by kernel_rfl) (fun _ _ _ h => h) (Or.inr ⟨by kernel_rfl, rfl⟩) (by assumption) rfl ?_
                      simp only [List.setIfInBounds_toArray, List.set_cons_succ, List.set_cons_zero]
                      refine wpAnyH_takeD (i := 17) 75 rfl (by kernel_rfl) (by kernel_rfl) (by kernel_rfl) (fun _ _ _ h => h) (Or.inr ⟨by kernel_rfl, rfl⟩) (by assumption) rfl ?_
                      simp only [List.setIfInBounds_toArray, List.set_cons_succ, List.set_cons_zero]
                      refine wpAnyH_takeD (i := 18) (v := ?_) 76 rfl (by kernel_rfl) (by kernel_rfl) (by kernel_rfl) (fun _ _ _ h => h) (Or.inl ⟨by rfl, ?_⟩) (by assumption) rfl ?_
                      rotate_left
                      · intro w' hSw
                        have y0 := below_cell hSw y0; have c1 := below_cell hSw c1; have c2 := below_cell hSw c2
                        go_simp <;> with_reducible rfl
                      simp only [List.setIfInBounds_toArray, List.set_cons_succ, List.set_cons_zero]
                      refine wpAnyH_done (by kernel_rfl) ?_ _
                      have HC1 := Lib.hid (HC.out.below HC.out.lt hHeld)
                      have HB1 := Lib.hid (HB.out.trans (hHeld.mono HB.out.size))
                      clear c1 c2 x0 x1 y0 HC HB hHeld
                      go_wp2
                      exact ⟨⟨j + 1, _, by go_num, by omega, HT2.out, HC1.out, HB1.out⟩, by simp [intOf]; omega⟩
                  · have hjd : decide ((j : Int) < (ps.length : Int)) = false := decide_eq_false (by omega)
                    have HT3 := Lib.hid (show Tab (Met ds) a ps k (fun _ m' => m' < i + 1) out from ⟨HT.out.1, fun m s hs => (HT.out.2 m s hs).elim .inl (fun q => .inr ⟨q.1, q.2.1, fun i' r hi' z => q.2.2 i' r hi' (by have := (List.getElem?_eq_some_iff.1 hi').1; rcases Nat.lt_succ_iff_lt_or_eq.1 z with y | y; exact .inl y; exact .inr ⟨y, by omega⟩)⟩)⟩)
                    clear hx hxr hneg
                    go_wp2
                    exact ⟨⟨i + 1, out, by go_num, by omega, HT3.out, HC.out, HB.out⟩, by simp [intOf]; omega⟩
                · have q0 : decide (x < 0) = false := decide_eq_false hneg
                  have HT3 := Lib.hid (tab_had HT.out hx (E' := fun _ m' => m' < i + 1) (by omega) (fun i' m' z y => by rcases Nat.lt_succ_iff_lt_or_eq.1 z with u | u; exact .inl u; exact absurd u y))
                  clear hx hxr
                  go_wp2
                  exact ⟨⟨i + 1, out, by go_num, by omega, HT3.out, HC.out, HB.out⟩, by simp [intOf]; omega⟩
            · have HT2 := Lib.hid (HT.out.up (fun _ m z y => by show m < i; omega) HA.out HPm.out)
              go_wp2
              exact ⟨⟨k + 1, out, by go_num, by omega, HT2.out.mono (fun _ _ q => q), HC.out, HB.out⟩, by simp [intOf]; omega⟩
        · have HSt := Lib.hid (show FarT ps ds a out from ⟨HT.out.1, fun m s hs => HT.out.all (by omega) HA.out HPm.out hs⟩)
          have HSl := Lib.hid (vsI_sl2 HC.out HT.out.1 HP.out)
          go_wp2
          go_ret
          exact ⟨HB.out, _, out, rfl, HSl.out, HSt.out⟩
end
end Go.Proofs.YtdmcopjbckelmaaGreatDoor
