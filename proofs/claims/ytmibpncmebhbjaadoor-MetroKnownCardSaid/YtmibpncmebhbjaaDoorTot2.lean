/- The walk of the reference's Total. -/
import Derived.Test.YtmibpncmebhbjaaDoorTot1
import Derived.Test.YtmibpncmebhbjaaDoorLad3
namespace Go.Proofs.YtmibpncmebhbjaaDoor
open Go Go.RowKit Go.Shelf
attribute [local go_sem] Oper.semAt_some

theorem yl_vals {us : List Un} {k : Nat} (h : k < (yl us 1 (by decide)).length) (hv : k < (vals us).length) : (vals us)[k] = (yl us 1 (by decide))[k].v := by simp [vals]

set_option maxRecDepth 100000 in
set_option maxHeartbeats 2000000 in
/-- The reference's Total is Total. -/
theorem rtotal_any (nm : ByteArray) (hnm : (nm.size : Int) ≤ 9223372036854775807) (A : Option Addr) (c : Nat) (us : List Un) (A2 : Option Addr) (c2 : Nat) (cs : List Int) (w : World) (hsl : Sl w 2 (.slice A us.length c) (unitsV us)) (hcs : Sl w 1 (.slice A2 cs.length c2) (cs.map (Value.int .i64))) (hbd : ∀ x ∈ cs, Bd x) :
    Calls Tryd.prog 74 #[.agg #[.string nm, .slice A us.length c], .slice A2 cs.length c2] w fun e w' => e = .returned (.tuple #[.int .i64 (totalF nm us cs).1, .int .i64 (totalF nm us cs).2]) ∧ Below w.heap.size w w' := by
  obtain ⟨_, _, e, hlc2, hcm2, hcl2⟩ := hcs.open1
  simp only [List.length_map] at e hlc2
  cases e
  have HCL := Lib.hid hcl2
  have HBD := Lib.hid hbd
  have Y0 := Cel.new w 33 #[.string nm, .slice A us.length c]
  have hw0 : Below w.heap.size w (w.alloc (.cells #[.string nm, .slice A us.length c] 33)) := below_alloc' _ _
  obtain ⟨W, hW⟩ : ∃ W, w.alloc (.cells #[.string nm, .slice A us.length c] 33) = W := ⟨_, rfl⟩
  rw [hW] at Y0 hw0
  have HW0 := Lib.hid hw0
  have HY0 := Lib.hid Y0
  have a0 := Y0.cell 0 (.string nm) rfl
  have a1 := Y0.cell 1 (.slice A us.length c) rfl
  have HS := Lib.hid (hsl.below hw0)
  have HCK := Lib.hid (rcheck_any nm hnm A c us W (hsl.below hw0))
  clear hsl Y0 hw0 hcs hcl2 hbd
  by_cases hc : checkF nm us = 0
  · have dc : (checkF nm us != 0) = false := by simp [hc]
    have HC0 := Lib.hid hc
    clear hc
    generalize hck : checkF nm us = ck at dc HCK
    clear hck
    by_cases hl : cs.length ≤ us.length
    · have dl : decide (us.length < cs.length) = false := decide_eq_false (by omega)
      have dl' : decide ((us.length : Int) < (cs.length : Int)) = false := decide_eq_false (by omega)
      have HE := Lib.hid (totalE_good HC0.out hl)
      obtain ⟨hf, hl1, hl2⟩ := checkF_zero HC0.out
      have HF := Lib.hid hf
      have HFU := Lib.hid (checkB_full HC0.out)
      have HVL := Lib.hid (vals_length HFU.out)
      clear hf
      go_enter Tryd.func74, Tryd.ntmps74
      go_wp2_with (go_at_call 32; refine HCK.out.mono ?_; rintro e w1 ⟨rfl, hb1⟩; have y1 := HY0.out.below HY0.out.lt hb1; have b0 := y1.cell 0 (.string nm) rfl; have b1 := y1.cell 1 (.slice A us.length c) rfl; have HY1 := Lib.hid y1; have HB1 := Lib.hid (below_then HW0.out hb1); have HS1 := Lib.hid (HS.out.below hb1))
      clear a0 a1 b0 b1 y1
      go_loopw [7] (fun t wr => ∃ k : Nat, t = .int .i64 k ∧ k ≤ cs.length ∧ (∀ j (hj : j < cs.length), j < k → 0 ≤ cs[j]) ∧ Below w1.heap.size w1 wr) (fun t _ => cs.length - (intOf t).toNat)
      case atStart => exact ⟨0, rfl, by omega, fun j _ h => by omega, Below.refl _ _⟩
      case round =>
        obtain ⟨k, rfl, hk, hne, hB⟩ := hrel
        have HN := Lib.hid hne
        clear hne
        by_cases hlt : k < cs.length
        · obtain ⟨ad, e, q0⟩ := HCL.out k (.int .i64 cs[k]) (by rw [List.getElem?_map, List.getElem?_eq_getElem hlt]; rfl)
          subst e
          have e1 := below_cell (below_then HB1.out hB) q0
          have hx := HBD.out cs[k] (List.getElem_mem _)
          obtain ⟨x, hxe⟩ : ∃ x, cs[k] = x := ⟨_, rfl⟩
          rw [hxe] at e1 hx
          have HX := Lib.hid hxe
          obtain ⟨hx1, hx2⟩ := hx
          clear q0 hxe
          by_cases h : x < 0
          · have HR := Lib.hid (totalF_neg HE.out (negB_yes hlt (by rw [HX.out]; exact h)))
            have d1 : decide (x < 0) = true := decide_eq_true h
            go_wp2
            go_ret2
            exact ⟨by rw [HR.out] <;> rfl, below_then HB1.out hB⟩
          · have d1 : decide (x < 0) = false := decide_eq_false h
            go_wp2
            go_roundw
            case rel =>
              refine ⟨k + 1, by simp, hlt, fun j hj hjk => ?_, hB⟩
              by_cases e : j = k
              · subst e; rw [HX.out]; omega
              · exact HN.out j hj (by omega)
            case measure => simp [intOf]; omega
        · have HNB := Lib.hid (negB_no fun j hj => HN.out j hj (by omega))
          have HT := Lib.hid (totalF_sum HE.out HNB.out)
          have HPOS := Lib.hid (negB_all HNB.out)
          have y2 := HY1.out.below HY1.out.lt hB
          have b0 := y2.cell 0 (.string nm) rfl
          have b1 := y2.cell 1 (.slice A us.length c) rfl
          have HV := Lib.hid (values_any nm A c us wr (HS1.out.below hB) HF.out hl2)
          have HB2 := Lib.hid (below_then HB1.out hB)
          clear y2 hB
          go_wp2_with (go_at_call 96; refine HV.out.mono ?_; rintro e w2 ⟨r, rfl, hb2, hr⟩; obtain ⟨A3, c3, rfl, hlc, hcm, hcl⟩ := (hr HFU.out).open1; clear hr; rw [List.length_map, HVL.out] at hlc; rw [List.length_map, HVL.out])
          have HB3 := Lib.hid (below_then HB2.out hb2)
          have HVC := Lib.hid hcl
          clear hb2 hcl b0 b1
          go_loopw [10, 11] (fun t10 t11 wr' => ∃ (k : Nat) (s : Int), t11 = .int .i64 k ∧ k ≤ cs.length ∧ t10 = .int .i64 s ∧ 0 ≤ s ∧ s ≤ 1099511627776 ∧ sumP ((yl us 1 (by decide)).take k) cs 0 = some s ∧ Below w2.heap.size w2 wr') (fun _ t11 _ => cs.length - (intOf t11).toNat)
          case atStart => exact ⟨0, 0, rfl, by omega, rfl, by decide, by decide, rfl, Below.refl _ _⟩
          case round =>
            obtain ⟨k, s, rfl, hk, rfl, s0, s1, hsum, hB⟩ := hrel
            have HSU := Lib.hid hsum
            clear hsum
            by_cases hlt : k < cs.length
            · have hku : k < us.length := by omega
              have hkv : k < (vals us).length := by rw [HVL.out]; exact hku
              have hky : k < (yl us 1 (by decide)).length := by rw [HFU.out]; exact hku
              obtain ⟨ad, e, q0⟩ := HCL.out k (.int .i64 cs[k]) (by rw [List.getElem?_map, List.getElem?_eq_getElem hlt]; rfl)
              subst e
              obtain ⟨ad2, e, q1⟩ := HVC.out k (.int .i64 (vals us)[k]) (by rw [List.getElem?_map, List.getElem?_eq_getElem hkv]; rfl)
              subst e
              have e1 := below_cell (below_then HB3.out hB) q0
              have e2 := below_cell hB q1
              obtain ⟨v1, v2⟩ := vals_get hkv
              have x1 := HPOS.out cs[k] (List.getElem_mem _)
              obtain ⟨_, x2⟩ := HBD.out cs[k] (List.getElem_mem _)
              have HAP := Lib.hid (show sumP ((yl us 1 (by decide)).take (k + 1)) cs 0 = if (1099511627776 - s) / (vals us)[k] < cs[k] then none else some (s + cs[k] * (vals us)[k]) by
                have hkl : ((yl us 1 (by decide)).take k).length = k := by simp; omega
                rw [List.take_succ_eq_append_getElem hky, sumP_append _ _ _ _ (by rw [hkl]; exact hlt), HSU.out]
                simp only [hkl, Option.bind_some, yl_vals hky hkv])
              have HTK := Lib.hid (List.take_append_drop (k + 1) (yl us 1 (by decide)))
              clear q0 q1
              generalize cs[k] = x at *
              generalize (vals us)[k] = v at *
              clear hkv hky
              have hv0 : ¬ v = 0 := by omega
              have dv := Int.ediv_nonneg (show 0 ≤ 1099511627776 - s by omega) (show 0 ≤ v by omega)
              have dv2 := Int.ediv_le_self v (show 0 ≤ 1099511627776 - s by omega)
              by_cases h : (1099511627776 - s) / v < x
              · have d1 : decide ((1099511627776 - s) / v < x) = true := decide_eq_true h
                have HR := Lib.hid (show totalF nm us cs = (0, 6) by
                  have h1 := HAP.out
                  rw [if_pos h] at h1
                  have := sumP_none _ ((yl us 1 (by decide)).drop (k + 1)) cs 0 h1
                  rw [HTK.out] at this
                  rw [HT.out, this])
                clear h
                go_wp2
                go_quiet (fail)
                go_wp2
                go_ret2
                exact ⟨by rw [HR.out] <;> rfl, below_then HB3.out (below_drewN hB _)⟩
              · have d1 : decide ((1099511627776 - s) / v < x) = false := decide_eq_false h
                obtain ⟨p1, p2, p3, p4, p5⟩ := sum_step s0 s1 x1 v1 h
                have p6 : -9223372036854775808 ≤ x * v := by omega
                have p7 : x * v ≤ 9223372036854775807 := by omega
                have HH := Lib.hid h
                clear h
                go_wp2
                go_quiet (fail)
                go_wp2
                go_quiet (fail)
                go_wp2
                go_roundw
                case rel => exact ⟨k + 1, s + x * v, by simp, hlt, rfl, p3, p4, by rw [HAP.out, if_neg (Int.not_lt.2 HH.out)], by repeat (first | exact hB | refine below_drewN ?_ _)⟩
                case measure => simp [intOf]; omega
            · have HR := Lib.hid (show totalF nm us cs = (s, 0) by
                have h1 := sumP_stop ((yl us 1 (by decide)).take k) ((yl us 1 (by decide)).drop k) cs 0 (by rw [List.length_take, HFU.out]; omega)
                rw [List.take_append_drop, HSU.out] at h1
                rw [HT.out, h1])
              go_wp2
              go_ret2
              exact ⟨by rw [HR.out] <;> rfl, below_then HB3.out hB⟩
    · have dl : decide (us.length < cs.length) = true := decide_eq_true (by omega)
      have dl' : decide ((us.length : Int) < (cs.length : Int)) = true := decide_eq_true (by omega)
      have HE := Lib.hid (totalE_arg HC0.out hl)
      have HR := Lib.hid (totalF_err (nm := nm) (us := us) (cs := cs) (by rw [HE.out]; decide))
      rw [HE.out] at HR
      clear hl
      go_enter Tryd.func74, Tryd.ntmps74
      go_wp2_with (go_at_call 32; refine HCK.out.mono ?_; rintro e w1 ⟨rfl, hb1⟩; have y1 := HY0.out.below HY0.out.lt hb1; have b0 := y1.cell 0 (.string nm) rfl; have b1 := y1.cell 1 (.slice A us.length c) rfl)
      go_ret2
      exact ⟨by rw [HR.out] <;> rfl, below_then HW0.out hb1⟩
  · have dc : (checkF nm us != 0) = true := by simp [hc]
    have HE := Lib.hid (totalE_check (us := us) (cs := cs) hc)
    have HR := Lib.hid (totalF_err (nm := nm) (us := us) (cs := cs) (by rw [HE.out]; exact hc))
    rw [HE.out] at HR
    clear hc HE
    generalize checkF nm us = ck at *
    go_enter Tryd.func74, Tryd.ntmps74
    go_wp2_with (go_at_call 32; refine HCK.out.mono ?_; rintro e w1 ⟨rfl, hb1⟩)
    go_ret2
    exact ⟨by rw [HR.out] <;> rfl, below_then HW0.out hb1⟩
end Go.Proofs.YtmibpncmebhbjaaDoor
