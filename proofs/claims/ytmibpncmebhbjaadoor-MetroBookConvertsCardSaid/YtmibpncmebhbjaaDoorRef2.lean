/- The walks of SignAt, Values, Check of the reference: a ladder in memory is any one. -/
import Derived.Test.YtmibpncmebhbjaaDoorP6
import Derived.Test.YtmibpncmebhbjaaDoorRef1
namespace Go.Proofs.YtmibpncmebhbjaaDoor
open Go Go.RowKit Go.Shelf

set_option maxRecDepth 100000 in
set_option maxHeartbeats 1000000 in
theorem signAt_any (nm : ByteArray) (A : Option Addr) (c : Nat) (us : List Un) (s : ByteArray) (w : World) (hsl : Sl w 2 (.slice A us.length c) (unitsV us)) :
    Calls Tryd.prog 95 #[.agg #[.string nm, .slice A us.length c], .string s] w fun e w' => e = .returned (.int .i64 (sgnI s us)) ∧ Below w.heap.size w w' := by
  obtain ⟨A', m', c', e, hm, hmc, hcm, hcl⟩ := hsl.open2 (by decide)
  cases e
  clear hm
  have hB0 : Below w.heap.size w (w.alloc (.cells #[.string nm, .slice A us.length c] 33)) := below_alloc' _ _
  have Y := Cel.new w 33 #[.string nm, .slice A us.length c]
  have HC := Lib.hid hcl
  clear hcl hsl
  go_enter Tryd.func95, Tryd.ntmps95
  go_wp2
  obtain ⟨W, hW⟩ : ∃ W, w.alloc (.cells #[.string nm, .slice A us.length c] 33) = W := ⟨_, rfl⟩
  rw [hW] at Y hB0 ⊢
  clear hW
  have HB0 := Lib.hid hB0
  have HY := Lib.hid Y
  clear hB0 Y
  go_loopw [5] (fun t wr => ∃ k : Nat, t = .int .i64 k ∧ k ≤ us.length ∧ (∀ j (hj : j < us.length), j < k → us[j].sign ≠ s) ∧ Below W.heap.size W wr) (fun t _ => us.length - (intOf t).toNat)
  case atStart => exact ⟨0, rfl, by omega, fun j _ h => by omega, Below.refl _ _⟩
  case round =>
    obtain ⟨k, rfl, hk, hne, hB⟩ := hrel
    have HN := Lib.hid hne
    clear hne
    have c1 := (HY.out.below HY.out.lt hB).cell 1 (.slice A us.length c) rfl
    have HB := Lib.hid (below_then HB0.out hB)
    by_cases hlt : k < us.length
    · obtain ⟨b, o, e, hb, hce⟩ := HC.out (by omega)
      subst e
      obtain ⟨g0, g1⟩ := unitsV_get hlt
      have e0 := below_cell HB.out (hce _ _ g0)
      clear hce g0 g1
      obtain ⟨u, hu⟩ : ∃ u, us[k] = u := ⟨_, rfl⟩
      rw [hu] at e0
      have HU := Lib.hid hu
      clear hu
      by_cases h : u.sign = s
      · have h5 : (u.sign.toList == s.toList) = true := by rw [bytes_toList_beq]; exact decide_eq_true h
        have HR := Lib.hid (show sgnI s us = k from sgnI_hit hlt (by rw [HU.out]; exact h) HN.out)
        clear h
        go_wp2
        go_ret
        exact ⟨by rw [HR.out] <;> rfl, HB.out⟩
      · have h5 : (u.sign.toList == s.toList) = false := by rw [bytes_toList_beq]; exact decide_eq_false h
        have HH := Lib.hid h
        clear h
        go_wp2
        go_roundw
        case rel =>
          refine ⟨k + 1, by simp, hlt, fun j hj hjk => ?_, hB⟩
          by_cases e : j = k
          · subst e; rw [HU.out]; exact HH.out
          · exact HN.out j hj (by omega)
        case measure => simp [intOf]; omega
    · have HR := Lib.hid (show sgnI s us = -1 from sgnI_none fun j hj => HN.out j hj (by omega))
      go_wp2
      go_ret
      exact ⟨by rw [HR.out] <;> rfl, HB.out⟩

set_option maxRecDepth 100000 in
set_option maxHeartbeats 1000000 in
theorem values_any (nm : ByteArray) (A : Option Addr) (c : Nat) (us : List Un) (w : World) (hsl : Sl w 2 (.slice A us.length c) (unitsV us)) (hf : ∀ u ∈ us, 1 ≤ u.factor ∧ u.factor ≤ 60) (hl : us.length ≤ 12) :
    Calls Tryd.prog 96 #[.agg #[.string nm, .slice A us.length c]] w fun e w' => ∃ r, e = .returned (.tuple #[r, .bool (decide ((yl us 1 (by decide)).length = us.length))]) ∧ Below w.heap.size w w' ∧ ((yl us 1 (by decide)).length = us.length → Sl w' 1 r ((vals us).map (Value.int .i64))) := by
  obtain ⟨A', m', c', e, hm, hmc, hcm, hcl⟩ := hsl.open2 (by decide)
  cases e
  clear hm
  have hB0 : Below w.heap.size w (w.alloc (.cells #[.string nm, .slice A us.length c] 33)) := below_alloc' _ _
  have Y := Cel.new w 33 #[.string nm, .slice A us.length c]
  have HC := Lib.hid hcl
  have HF := Lib.hid hf
  clear hcl hsl hf
  go_enter Tryd.func96, Tryd.ntmps96
  go_wp2
  obtain ⟨W, hW⟩ : ∃ W, w.alloc (.cells #[.string nm, .slice A us.length c] 33) = W := ⟨_, rfl⟩
  rw [hW] at Y hB0 ⊢
  clear hW
  have HB0 := Lib.hid hB0
  have HY := Lib.hid Y
  clear hB0 Y
  go_loopw [4, 5, 6] (fun o t i wr => ∃ (k : Nat) (v : Int) (hv : 1 ≤ v) (pre : List UV), k ≤ us.length ∧ i = .int .i64 k ∧ t = .int .i64 v ∧ v ≤ 1099511627776 ∧ pre.length = k ∧ yl us 1 (by decide) = pre ++ yl (us.drop k) v hv ∧ wr.ownsRow W.heap.size 3 1 o k (pre.map fun x => Value.int .i64 x.v) ∧ Below W.heap.size W wr) (fun _ _ i _ => us.length - (intOf i).toNat)
  case atStart => exact ⟨0, 1, by decide, [], by omega, rfl, rfl, by decide, rfl, rfl, World.ownsRow_nil _ _ _ _, Below.refl _ _⟩
  case round =>
    obtain ⟨k, v, hv, pre, hk, rfl, rfl, hvm, hpl, hyl, hown, hB⟩ := hrel
    have HL := Lib.hid hyl
    have HP := Lib.hid hpl
    clear hyl hpl
    have c1 := (HY.out.below HY.out.lt hB).cell 1 (.slice A us.length c) rfl
    have HB := Lib.hid (below_then HB0.out hB)
    have hsz := hB.size
    by_cases hlt : k < us.length
    · obtain ⟨b, o, e, hb, hce⟩ := HC.out (by omega)
      subst e
      obtain ⟨g0, g1⟩ := unitsV_get hlt
      have e1 := below_cell HB.out (hce _ _ g1)
      rw [← Nat.add_assoc] at e1
      clear hce g0 g1
      have hfk := HF.out us[k] (List.getElem_mem _)
      have HD := Lib.hid (List.drop_eq_getElem_cons hlt)
      generalize us[k] = u at *
      obtain ⟨hf1, hf2⟩ := hfk
      obtain ⟨hm1, hm2⟩ := (mul_bd (a := v) (b := u.factor) (x := 1099511627776) (y := 60) (by omega) hvm (by omega) hf2 (by decide))
      by_cases hmm : v * u.factor ≤ 1099511627776
      · have d3 : decide (1099511627776 < v * u.factor) = false := by simp; omega
        have HX := Lib.hid (show yl us 1 (by decide) = (pre ++ [⟨u, v * u.factor, ⟨hf1, hf2⟩, mul_pos1 hv hf1, hmm⟩]) ++ yl (us.drop (k + 1)) (v * u.factor) (mul_pos1 hv hf1) by
          rw [HL.out, HD.out, yl_go ⟨hf1, hf2⟩ hmm]; simp)
        go_wp2_with (at_builtin; refine appInt _ _ rfl rfl rfl rfl (hown.alloc _) (Sl.new (s := 1) wr 3 1 1 _ rfl (by omega) (by omega)) (by simp [Value.oneCell']) rfl (by simp; omega) (by simp; omega) ?_; intro A1 c1 w1 hap)
        have hb1 := below_of_own hap.grown (hown.alloc _) (hB.alloc hsz (.cells #[.int .i64 (v * u.factor)] 3)) (Nat.le_refl _)
        have hap1 := hap.own
        clear hap
        go_wp2
        go_roundw
        case rel => exact ⟨k + 1, v * u.factor, mul_pos1 hv hf1, _, by omega, by go_num, rfl, hmm, by simp [HP.out], HX.out, by simpa using hap1, hb1⟩
        case measure => simp [intOf]; omega
      · have d3 : decide (1099511627776 < v * u.factor) = true := by simp; omega
        have HN := Lib.hid (show ¬ (yl us 1 (by decide)).length = us.length by
          rw [HL.out, HD.out, yl_big hmm]; simp [HP.out]; omega)
        go_wp2
        go_ret2
        exact ⟨_, by rw [decide_eq_false HN.out] <;> rfl, HB.out, fun h => absurd h HN.out⟩
    · have HX := Lib.hid (show yl us 1 (by decide) = pre by rw [HL.out, List.drop_of_length_le (by omega)]; simp [yl])
      have HN := Lib.hid (show (yl us 1 (by decide)).length = us.length by rw [HX.out, HP.out]; omega)
      have HS := Lib.hid (Sl.of_own hown)
      go_wp2
      go_ret2
      exact ⟨_, by rw [decide_eq_true HN.out] <;> rfl, HB.out, fun _ => by unfold vals; rw [HX.out, List.map_map]; exact HS.out⟩
end Go.Proofs.YtmibpncmebhbjaaDoor
