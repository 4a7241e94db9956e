/- The walk of the reference's Split. -/
import Derived.Test.YtmibpncmebhbjaaDoorLad1
import Derived.Test.YtmibpncmebhbjaaDoorRef4
namespace Go.Proofs.YtmibpncmebhbjaaDoor
open Go Go.RowKit Go.Shelf
attribute [local go_sem] Oper.semAt_some

theorem vals_length {us : List Un} (h : (yl us 1 (by decide)).length = us.length) : (vals us).length = us.length := by rw [vals, List.length_map, h]
theorem splitL_yes {nm : ByteArray} {us : List Un} {n : Int} (h : splitE nm us n = 0) : splitL nm us n = splitF us n := if_pos h
theorem splitE_good {nm : ByteArray} {us : List Un} {n : Int} (h : checkF nm us = 0) (h0 : 0 ≤ n) (h1 : n ≤ 1099511627776) : splitE nm us n = 0 := by rw [splitE, h, rangeB_in h0 h1]; rfl
theorem splitE_range {nm : ByteArray} {us : List Un} {n : Int} (h : checkF nm us = 0) (h1 : rangeB n = false) : splitE nm us n = 8 := by rw [splitE, h, h1]; rfl
theorem splitE_check {nm : ByteArray} {us : List Un} {n : Int} (h : ¬ checkF nm us = 0) : splitE nm us n = checkF nm us := by unfold splitE; simp [firstF, h]
theorem splitL_no {nm : ByteArray} {us : List Un} {n : Int} (h : ¬ splitE nm us n = 0) : splitL nm us n = [] := if_neg h

set_option maxRecDepth 100000 in
set_option maxHeartbeats 2000000 in
/-- The reference's Split is Split. -/
theorem rsplit_any (nm : ByteArray) (hnm : (nm.size : Int) ≤ 9223372036854775807) (A : Option Addr) (c : Nat) (us : List Un) (n : Int) (w : World) (hsl : Sl w 2 (.slice A us.length c) (unitsV us)) :
    Calls Tryd.prog 54 #[.agg #[.string nm, .slice A us.length c], .int .i64 n] w fun e w' => ∃ v, e = .returned (.tuple #[v, .int .i64 (splitE nm us n)]) ∧ Sl w' 1 v ((splitL nm us n).map (Value.int .i64)) ∧ Below w.heap.size w w' := by
  have Y0 := Cel.new w 33 #[.string nm, .slice A us.length c]
  have hw0 : Below w.heap.size w (w.alloc (.cells #[.string nm, .slice A us.length c] 33)) := below_alloc' _ _
  obtain ⟨W, hW⟩ : ∃ W, w.alloc (.cells #[.string nm, .slice A us.length c] 33) = W := ⟨_, rfl⟩
  rw [hW] at Y0 hw0
  have HW0 := Lib.hid hw0
  have HY0 := Lib.hid Y0
  have a0 := Y0.cell 0 (.string nm) rfl
  have a1 := Y0.cell 1 (.slice A us.length c) rfl
  have HS := Lib.hid (hsl.below hw0)
  have HCK := Lib.hid (rcheck_any nm hnm A c us W (hsl.below hw0))
  clear hsl Y0 hw0
  by_cases hc : checkF nm us = 0
  · have dc : (checkF nm us != 0) = false := by simp [hc]
    have HC0 := Lib.hid hc
    clear hc
    generalize hck : checkF nm us = ck at dc HCK
    have HCKE := Lib.hid hck
    clear hck
    by_cases h0 : 0 ≤ n
    · have d0 : decide (n < 0) = false := decide_eq_false (by omega)
      by_cases h1 : n ≤ 1099511627776
      · have d1 : decide (1099511627776 < n) = false := decide_eq_false (by omega)
        have HE := Lib.hid (splitE_good HC0.out h0 h1)
        have HL := Lib.hid (splitL_yes HE.out)
        obtain ⟨hf, hl1, hl2⟩ := checkF_zero HC0.out
        have HF := Lib.hid hf
        have HFU := Lib.hid (checkB_full HC0.out)
        have HVL := Lib.hid (vals_length HFU.out)
        clear hf
        have hmk := run_make_row' (P := Tryd.prog) 75 3 (.int .i64 0) 8 Tryd.underlying75 infoInt rfl .i64 .i64 us.length (by omega) (by omega)
        go_enter Tryd.func54, Tryd.ntmps54
        go_wp2_with (first
          | (go_at_call 32; refine HCK.out.mono ?_; rintro e w1 ⟨rfl, hb1⟩; have y1 := HY0.out.below HY0.out.lt hb1; have b0 := y1.cell 0 (.string nm) rfl; have b1 := y1.cell 1 (.slice A us.length c) rfl)
          | (go_at_call 96; refine (values_any nm A c us w1 (HS.out.below hb1) HF.out hl2).mono ?_; rintro e w2 ⟨r, rfl, hb2, hr⟩; obtain ⟨A3, c3, rfl, hlc, hcm, hcl⟩ := (hr HFU.out).open1; clear hr; rw [List.length_map, HVL.out] at hlc; rw [List.length_map, HVL.out]))
        have Y2 := Cel.new w2 3 (madeCells #[.int .i64 0] us.length)
        have hB2 : Below w2.heap.size w2 (w2.alloc (.cells (madeCells #[.int .i64 0] us.length) 3)) := below_alloc' _ _
        obtain ⟨W2, hW2⟩ : ∃ W2, w2.alloc (.cells (madeCells #[.int .i64 0] us.length) 3) = W2 := ⟨_, rfl⟩
        rw [hW2] at Y2 hB2 ⊢
        have HBW := Lib.hid (below_then HW0.out (below_then hb1 hb2))
        have HCL := Lib.hid hcl
        clear hW2 hmk y1 b0 b1 hb1 hb2 hcl hW a0 a1
        go_loopw [1, 10] (fun t1 t10 wr => ∃ (j : Nat) (m : Int) (C : Array Value), j ≤ us.length ∧ ((j = 0 ∧ t10 = .int .i64 (-1)) ∨ ∃ K : Nat, j = K + 1 ∧ t10 = .int .i64 (K : Int)) ∧ t1 = .int .i64 m ∧ m = restN us n j ∧ Cel wr w2.heap.size 3 C ∧ C.size = us.length ∧
            (∀ i, j ≤ i → i < us.length → C[i]? = some (Value.int .i64 ((splitF us n).getD i 0))) ∧ Below w2.heap.size w2 wr) (fun _ t10 _ => (intOf t10 + 1).toNat)
        case atStart => exact ⟨us.length, n, _, Nat.le_refl _, .inr ⟨us.length - 1, by omega, by congr 1; omega⟩, rfl, (restN_top (by rw [HVL.out]; exact Nat.le_refl _)).symm, Y2, size_madeCells _ _, fun i h3 h4 => by omega, hB2⟩
        case round =>
          obtain ⟨j, m, C, hj, hcase, rfl, hm, hY, hC, hCi, hB⟩ := hrel
          clear hB2 Y2
          have HC := Lib.hid hC
          have HCI := Lib.hid hCi
          have HM := Lib.hid hm
          have hbd := restN_bd (us := us) j h0 h1
          rw [← hm] at hbd
          obtain ⟨m1, m2⟩ := hbd
          clear hC hCi hm
          rcases hcase with ⟨hj0, rfl⟩ | ⟨K, hjK, rfl⟩
          · have HJ := Lib.hid hj0
            clear hj0
            go_wp2
            go_ret2
            refine ⟨_, by rw [HE.out] <;> rfl, hY.sl (s := 1) (xs := (splitL nm us n).map (Value.int .i64)) ?_ (by rw [List.length_map, HL.out, splitF_length]; omega) (Nat.le_refl _) (by omega), below_then HBW.out hB⟩
            rw [HL.out]
            refine List.ext_getElem? fun i => ?_
            have hC := HC.out
            by_cases hi : i < us.length
            · have := HCI.out i (by rw [HJ.out]; omega) hi
              rw [Array.getElem?_toList, this, List.getElem?_map, List.getElem?_eq_getElem (by rw [splitF_length]; exact hi)]
              simp [List.getD, List.getElem?_eq_getElem (show i < (splitF us n).length by rw [splitF_length]; exact hi)]
            · rw [List.getElem?_eq_none (by simp; omega), List.getElem?_eq_none (by simp [splitF_length]; omega)]
          · have hK : K < us.length := by omega
            have hKv : K < (vals us).length := by rw [HVL.out]; exact hK
            obtain ⟨ad, rfl, q0⟩ := HCL.out K (.int .i64 (vals us)[K]) (by rw [List.getElem?_map, List.getElem?_eq_getElem hKv]; rfl)
            obtain ⟨x1, x2⟩ := vals_get hKv
            have HST := Lib.hid (restN_step HC0.out n hKv)
            have HSP := Lib.hid (splitF_rest HC0.out n hK hKv)
            have HJ := Lib.hid hjK
            have e1 := below_cell hB q0
            have e2 := fun z => below_cell (hB.setCell (p := ⟨w2.heap.size, K, none⟩) (by simp) z) q0
            obtain ⟨old, hold⟩ : ∃ old, C[K]? = some old := ⟨C[K]'(by rw [HC.out]; exact hK), Array.getElem?_eq_getElem _⟩
            have c2 := hY.cell K old hold
            have c3 := hY.frozen K
            have HM2 := Lib.hid (show m = restN us n (K + 1) by rw [HM.out, HJ.out])
            clear q0 hold hjK
            generalize (vals us)[K] = x at *
            clear hKv
            have hx0 : ¬ x = 0 := by omega
            have dv := Int.ediv_nonneg m1 (show 0 ≤ x by omega)
            have dv2 := Int.ediv_le_self x m1
            have dm1 := Int.emod_nonneg m hx0
            have dm2 := Int.emod_lt_of_pos m (show 0 < x by omega)
            go_wp2
            go_roundw
            case rel =>
              have hC := HC.out
              refine ⟨K, m % x, C.setIfInBounds K (.int .i64 (m / x)), by omega, ?_, rfl, by rw [HM2.out]; exact HST.out, hY.setAt K _, by simpa using hC, ?_, hB.setCell (p := ⟨w2.heap.size, K, none⟩) (by simp) _⟩
              · cases K with
                | zero => left; exact ⟨rfl, rfl⟩
                | succ K' => right; exact ⟨K', rfl, by first | rfl | (congr 1; omega)⟩
              · intro i h3 h4
                by_cases e : i = K
                · subst e
                  rw [Array.getElem?_setIfInBounds_self_of_lt (by omega), List.getD, HSP.out, ← HM2.out]
                  rfl
                · rw [Array.getElem?_setIfInBounds_ne (by omega)]
                  exact HCI.out i (by rw [HJ.out]; omega) h4
            case measure => simp [intOf]
      · have d1 : decide (1099511627776 < n) = true := decide_eq_true (by omega)
        have HE := Lib.hid (splitE_range HC0.out (rangeB_big h1))
        have HL := Lib.hid (splitL_no (nm := nm) (us := us) (n := n) (by rw [HE.out]; decide))
        clear h1
        go_enter Tryd.func54, Tryd.ntmps54
        go_wp2_with (go_at_call 32; refine HCK.out.mono ?_; rintro e w1 ⟨rfl, hb1⟩)
        go_ret2
        exact ⟨_, by rw [HE.out] <;> rfl, by rw [HL.out]; exact Sl.nilv _ _, below_then HW0.out hb1⟩
    · have d0 : decide (n < 0) = true := decide_eq_true (by omega)
      have HE := Lib.hid (splitE_range HC0.out (rangeB_lo h0))
      have HL := Lib.hid (splitL_no (nm := nm) (us := us) (n := n) (by rw [HE.out]; decide))
      clear h0
      go_enter Tryd.func54, Tryd.ntmps54
      go_wp2_with (go_at_call 32; refine HCK.out.mono ?_; rintro e w1 ⟨rfl, hb1⟩)
      go_ret2
      exact ⟨_, by rw [HE.out] <;> rfl, by rw [HL.out]; exact Sl.nilv _ _, below_then HW0.out hb1⟩
  · have dc : (checkF nm us != 0) = true := by simp [hc]
    have HE := Lib.hid (splitE_check (n := n) hc)
    have HL := Lib.hid (splitL_no (nm := nm) (us := us) (n := n) (by rw [HE.out]; exact hc))
    clear hc
    generalize checkF nm us = ck at *
    go_enter Tryd.func54, Tryd.ntmps54
    go_wp2_with (go_at_call 32; refine HCK.out.mono ?_; rintro e w1 ⟨rfl, hb1⟩)
    go_ret2
    exact ⟨_, by rw [HE.out] <;> rfl, by rw [HL.out]; exact Sl.nilv _ _, below_then HW0.out hb1⟩
end Go.Proofs.YtmibpncmebhbjaaDoor
