/- Walks of the package date: whether a calendar is valid. Conditions: those stated. -/
import Derived.Test.YthpjeclhignciaaDoorT3
import Derived.Deep.LoopGhost
namespace Go.Proofs.YthpjeclhignciaaDoor
open Go Go.RowKit Go.Shelf
attribute [local go_sem] Oper.semAt_some

def kSn (pre : List ByteArray) (s : ByteArray) : Bool := !decide (s ∈ pre) && nameB s
def kGo (pre : List ByteArray) : List ByteArray → Bool
  | [] => true
  | s :: l => kSn pre s && kGo (pre ++ [s]) l
theorem kGo_append (p a b : List ByteArray) : kGo p (a ++ b) = (kGo p a && kGo (p ++ a) b) := by
  induction a generalizing p with
  | nil => simp [kGo]
  | cons s a ih => simp [kGo, ih, Bool.and_assoc]
theorem kGo_snoc (l : List ByteArray) (s : ByteArray) : kGo [] (l ++ [s]) = (kGo [] l && kSn l s) := by simp [kGo_append, kGo]
def kingsB (ks : List ByteArray) : Bool := decide (1 ≤ ks.length) && decide (ks.length ≤ 40) && kGo [] ks
def lenB (ks : List ByteArray) : Bool := decide (1 ≤ ks.length) && decide (ks.length ≤ 40)
theorem take_get {α : Type} (l : List α) (k : Nat) (h : k < l.length) : l.take (k + 1) = l.take k ++ [l[k]] := by rw [List.take_succ_eq_append_getElem h]

set_option maxRecDepth 100000 in
set_option maxHeartbeats 2000000 in
theorem validKings_any (v : Value) (ks : List ByteArray) (w : World) (hv : Sl w 1 v (ks.map Value.string)) (hb : ∀ s ∈ ks, (s.size : Int) ≤ 9223372036854775807) :
    Calls Tryd.prog 40 #[v] w fun e w' => e = .returned (.bool (kingsB ks)) ∧ w = w' := by
  obtain ⟨A, m, cp, rfl, hm, hmc, hcm, hcell⟩ := hv.open2 (by decide)
  clear hv
  obtain rfl : m = ks.length := by simp at hm; omega
  have HC := Lib.hid hcell
  have HB := Lib.hid hb
  clear hcell hb hm
  obtain ⟨b1, d1⟩ : ∃ b, decide ((1 : Int) ≤ (ks.length : Int)) = b := ⟨_, rfl⟩
  obtain ⟨b2, d2⟩ : ∃ b, decide ((ks.length : Int) ≤ 40) = b := ⟨_, rfl⟩
  have HQ := Lib.hid (show lenB ks = (b1 && b2) by
    rw [← d1, ← d2]; unfold lenB; congr 1 <;> (congr 1; simp; try omega))
  have HF := Lib.hid (show kingsB ks = (lenB ks && kGo [] ks) from rfl)
  cases b1 <;> cases b2
  all_goals
    go_enter Tryd.func40, Tryd.ntmps40
    go_wp2
    go_step3
    go_wp2
    go_step3
    go_wp2
  all_goals
    go_loopg [3, 18] ks.length (fun g t i wr => ∃ (k : Nat) (b : Bool), k + g = ks.length ∧ i = .int .i64 k ∧ t = .bool b ∧ Hid (b = (lenB ks && kGo [] (ks.take k))) ∧ wr = w)
    case atStart => exact ⟨0, _, by omega, rfl, rfl, by rw [HQ.out]; rfl, rfl⟩
    case round =>
      obtain ⟨k, b, hkg, rfl, rfl, HB0, rfl⟩ := hrel
      by_cases hlt : k < ks.length
      · obtain ⟨bl, o, e, _, hce⟩ := HC.out (by omega)
        subst e
        have hg : (ks.map Value.string)[k]? = some (.string ks[k]) := by simp [hlt]
        have e0 := hce _ _ hg
        have hsz := HB.out ks[k] (List.getElem_mem _)
        have HT := Lib.hid (take_get ks k hlt)
        have HCE := Lib.hid hce
        clear hce hg
        generalize ks[k] = s at *
        cases gk with
        | zero => omega
        | succ gk =>
          have HN := Lib.hid (kGo_snoc (ks.take k) s)
          have HE : Hid (∀ i : Nat, i < k → ks[i]? = some s → kingsB ks = false) := fun i hi hs => by
            have h1 : s ∈ ks.take k := by
              exact List.mem_of_getElem? (i := i) (by rw [List.getElem?_take_of_lt hi, hs])
            have h2 : kGo [] (ks.take (k + 1)) = false := by rw [HT.out, HN.out]; simp [kSn, h1]
            have h3 := kGo_append [] (ks.take (k + 1)) (ks.drop (k + 1))
            rw [List.take_append_drop, h2] at h3
            rw [HF.out, h3]; simp
          obtain ⟨go, rfl⟩ : ∃ g, g = gk := ⟨gk, rfl⟩
          cases b
          · go_wp2
            go_loopg [3, 27] k (fun g2 t j wi => ∃ (i : Nat), i + g2 = k ∧ t = .bool false ∧ j = .int .i64 i ∧ Hid (∀ x ∈ ks.take i, x ≠ s) ∧ wi = wr)
            case atStart => exact ⟨0, by omega, rfl, rfl, by intro x hx; simp at hx, rfl⟩
            case round =>
              obtain ⟨i, hig, rfl, rfl, HX, rfl⟩ := hrel
              by_cases hlt2 : i < k
              · have hi : i < ks.length := by omega
                have hg : (ks.map Value.string)[i]? = some (.string ks[i]) := by simp [hi]
                have e1 := HCE.out _ _ hg
                have HT2 := Lib.hid (take_get ks i hi)
                have HI := Lib.hid (show ks[i]? = some ks[i] by simp [hi])
                clear hg
                generalize ks[i] = x at *
                by_cases hxs : x = s
                · subst hxs
                  have hq : (x.toList == x.toList) = true := by simp
                  have HEF := Lib.hid (HE.out i hlt2 HI.out)
                  go_wp2
                  try rw [Exit.noGoto_ret]
                  go_ret
                  exact ⟨by rw [HEF.out]; rfl, rfl⟩
                · have hq : (x.toList == s.toList) = false := by rw [bytes_toList_beq]; exact decide_eq_false hxs
                  have HX2 : Hid (∀ y ∈ ks.take (i + 1), y ≠ s) := by
                    intro y hy
                    rw [HT2.out] at hy
                    rcases List.mem_append.1 hy with hy | hy
                    · exact HX.out y hy
                    · simp at hy; subst hy; exact hxs
                  clear hxs
                  cases gk with
                  | zero => omega
                  | succ g2 =>
                    go_wp2
                    go_roundg g2
                    case measure => omega
                    case rel => exact ⟨i + 1, by omega, rfl, by go_num, HX2, rfl⟩
              · have hc : kSn (ks.take k) s = nameB s := by
                  have h1 : ¬ s ∈ ks.take k := by
                    intro h
                    exact HX.out s (by rwa [show i = k by omega]) rfl
                  simp [kSn, h1]
                have HB1 : Hid (false = (lenB ks && kGo [] (ks.take (k + 1)))) := by
                  show _ = _
                  rw [HT.out, HN.out, hc, ← Bool.and_assoc, ← HB0.out]; rfl
                clear hc
                go_wp2
                go_roundg go
                case measure => omega
                case rel => exact ⟨k + 1, _, by omega, by go_num, rfl, HB1, rfl⟩
          · go_wp2
            go_loopg [3, 27] k (fun g2 t j wi => ∃ (i : Nat), i + g2 = k ∧ t = .bool true ∧ j = .int .i64 i ∧ Hid (∀ x ∈ ks.take i, x ≠ s) ∧ wi = wr)
            case atStart => exact ⟨0, by omega, rfl, rfl, by intro x hx; simp at hx, rfl⟩
            case round =>
              obtain ⟨i, hig, rfl, rfl, HX, rfl⟩ := hrel
              by_cases hlt2 : i < k
              · have hi : i < ks.length := by omega
                have hg : (ks.map Value.string)[i]? = some (.string ks[i]) := by simp [hi]
                have e1 := HCE.out _ _ hg
                have HT2 := Lib.hid (take_get ks i hi)
                have HI := Lib.hid (show ks[i]? = some ks[i] by simp [hi])
                clear hg
                generalize ks[i] = x at *
                by_cases hxs : x = s
                · subst hxs
                  have hq : (x.toList == x.toList) = true := by simp
                  have HEF := Lib.hid (HE.out i hlt2 HI.out)
                  go_wp2
                  try rw [Exit.noGoto_ret]
                  go_ret
                  exact ⟨by rw [HEF.out]; rfl, rfl⟩
                · have hq : (x.toList == s.toList) = false := by rw [bytes_toList_beq]; exact decide_eq_false hxs
                  have HX2 : Hid (∀ y ∈ ks.take (i + 1), y ≠ s) := by
                    intro y hy
                    rw [HT2.out] at hy
                    rcases List.mem_append.1 hy with hy | hy
                    · exact HX.out y hy
                    · simp at hy; subst hy; exact hxs
                  clear hxs
                  cases gk with
                  | zero => omega
                  | succ g2 =>
                    go_wp2
                    go_roundg g2
                    case measure => omega
                    case rel => exact ⟨i + 1, by omega, rfl, by go_num, HX2, rfl⟩
              · have hc : kSn (ks.take k) s = nameB s := by
                  have h1 : ¬ s ∈ ks.take k := by
                    intro h
                    exact HX.out s (by rwa [show i = k by omega]) rfl
                  simp [kSn, h1]
                have HB1 : Hid (nameB s = (lenB ks && kGo [] (ks.take (k + 1)))) := by
                  show _ = _
                  rw [HT.out, HN.out, hc, ← Bool.and_assoc, ← HB0.out]; rfl
                clear hc
                go_wp2_with (go_at_call 41; refine (isName_any s _ hsz).mono ?_; rintro e w' ⟨rfl, rfl⟩)
                go_roundg go
                case measure => omega
                case rel => exact ⟨k + 1, _, by omega, by go_num, rfl, HB1, rfl⟩
      · obtain rfl : k = ks.length := by omega
        go_wp2
        try rw [Exit.noGoto_ret]
        go_ret
        exact ⟨by rw [HF.out, HB0.out, List.take_length]; rfl, rfl⟩
end Go.Proofs.YthpjeclhignciaaDoor
