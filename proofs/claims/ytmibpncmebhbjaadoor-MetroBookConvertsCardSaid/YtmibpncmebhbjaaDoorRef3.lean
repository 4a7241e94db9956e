/- The walk of the reference's Check, at every ladder. -/
import Derived.Test.YtmibpncmebhbjaaDoorRef2
namespace Go.Proofs.YtmibpncmebhbjaaDoor
open Go Go.RowKit Go.Shelf
attribute [local go_sem] Oper.semAt_some

theorem rcheck_bad {nm : ByteArray} {us : List Un} {k : Nat} (h : rGo (us.take k) (us.drop k) = rGo [] us) (hk : k < us.length) (hb : okU (us.take k) us[k] = false) : checkF nm us = 10 := by
  rw [checkF_r, rcheckB]
  rw [rGo_step hk, hb, Bool.false_and] at h
  rw [← h]; simp

set_option maxRecDepth 100000 in
set_option maxHeartbeats 2000000 in
theorem rcheck_loop (nm : ByteArray) (hnm : (nm.size : Int) ≤ 9223372036854775807) (A : Option Addr) (c : Nat) (us : List Un) (w : World) (hsl : Sl w 2 (.slice A us.length c) (unitsV us))
    (h1 : nameB nm = true) (h2 : 1 ≤ us.length) (h3 : us.length ≤ 12) :
    Calls Tryd.prog 32 #[.agg #[.string nm, .slice A us.length c]] w fun e w' => e = .returned (.int .i64 (checkF nm us)) ∧ Below w.heap.size w w' := by
  obtain ⟨A', m', c', e, hm, hmc, hcm, hcl⟩ := hsl.open2 (by decide)
  cases e
  clear hm
  have hB0 : Below w.heap.size w (w.alloc (.cells #[.string nm, .slice A us.length c] 33)) := below_alloc' _ _
  have Y := Cel.new w 33 #[.string nm, .slice A us.length c]
  have HC := Lib.hid hcl
  have HS := Lib.hid hsl
  clear hcl hsl
  have d1 : decide ((us.length : Int) < 1) = false := by simp; omega
  have d2 : decide ((12 : Int) < us.length) = false := by simp; omega
  go_enter Tryd.func32, Tryd.ntmps32
  go_wp2_with (go_at_call 26; refine (risName_any nm _ hnm).mono ?_; rintro e w' ⟨rfl, rfl⟩)
  have H1 := Lib.hid h1
  obtain ⟨W, hW⟩ : ∃ W, w.alloc (.cells #[.string nm, .slice A us.length c] 33) = W := ⟨_, rfl⟩
  rw [hW] at Y hB0 ⊢
  clear hW h1
  have HB0 := Lib.hid hB0
  have HY := Lib.hid Y
  clear hB0 Y
  go_loopw [3] (fun t wr => ∃ k : Nat, t = .int .i64 k ∧ k ≤ us.length ∧ rGo (us.take k) (us.drop k) = rGo [] us ∧ Below W.heap.size W wr) (fun t _ => us.length - (intOf t).toNat)
  case atStart => exact ⟨0, rfl, by omega, rfl, Below.refl _ _⟩
  case round =>
    obtain ⟨k, rfl, hk, hgo, hB⟩ := hrel
    have HG := Lib.hid hgo
    clear hgo
    have hYr := HY.out.below HY.out.lt hB
    have HYr := Lib.hid hYr
    have c0 := hYr.cell 0 (.string nm) rfl
    have c1 := hYr.cell 1 (.slice A us.length c) rfl
    have HBW := Lib.hid hB
    have HB := Lib.hid (below_then HB0.out hB)
    have hsz := hB.size
    clear hYr hB
    by_cases hlt : k < us.length
    · obtain ⟨b, o, e, hb, hce⟩ := HC.out (by omega)
      subst e
      obtain ⟨g0, g1⟩ := unitsV_get hlt
      have e0 := below_cell HB.out (hce _ _ g0)
      have e1 := below_cell HB.out (hce _ _ g1)
      rw [← Nat.add_assoc] at e1
      clear hce g0 g1
      have HO := Lib.hid (okU_eq hlt)
      have HST := Lib.hid (rGo_step hlt)
      have HBAD := Lib.hid (fun h => rcheck_bad (nm := nm) HG.out hlt h)
      generalize okU (us.take k) us[k] = ok at *
      generalize us[k] = u at *
      have hus := u.hs
      have hYu := Cel.new wr 78 #[.string u.sign, .int .i64 u.factor]
      have a0 := hYu.cell 0 (.string u.sign) rfl
      have a1 := hYu.cell 1 (.int .i64 u.factor) rfl
      have d0 := (HYr.out.alloc (.cells #[.string u.sign, .int .i64 u.factor] 78)).cell 0 (.string nm) rfl
      have d1' := (HYr.out.alloc (.cells #[.string u.sign, .int .i64 u.factor] 78)).cell 1 (.slice (some ⟨b, o, none⟩) us.length c) rfl
      have HYu := Lib.hid hYu
      have HB1 := Lib.hid (HB.out.alloc HB.out.size (.cells #[.string u.sign, .int .i64 u.factor] 78))
      have HBW1 := Lib.hid (HBW.out.alloc HBW.out.size (.cells #[.string u.sign, .int .i64 u.factor] 78))
      have HCN := Lib.hid (fun W => risName_any u.sign W hus)
      have HCS := Lib.hid (signAt_any nm (some ⟨b, o, none⟩) c us u.sign (wr.alloc (.cells #[.string u.sign, .int .i64 u.factor] 78)) (HS.out.below HB1.out))
      clear hYu
      generalize nameB u.sign = nb at *
      generalize sgnI u.sign us = si at *
      have hnb1 := HO.out
      clear hnb1
      cases nb with
      | false =>
        have HX := Lib.hid (HBAD.out (by rw [HO.out]; simp))
        go_wp2_with (go_at_call 26; refine (HCN.out _).mono ?_; rintro e w' ⟨rfl, rfl⟩)
        go_ret
        exact ⟨by rw [HX.out] <;> rfl, HB1.out⟩
      | true =>
        have hnb1 := HB1.out.size
        by_cases hs : si = (k : Int)
        · have b1 : (si != (k : Int)) = false := by simp [hs]
          by_cases hk0 : k = 0
          · have b2 : ((k : Int) == 0) = true := by simp [hk0]
            have b3 : decide (0 < k) = false := by simp [hk0]
            have HK0 := Lib.hid hk0
            clear hk0
            by_cases hf : u.factor = 1
            · have b4 : (u.factor != 1) = false := by simp [hf]
              have HFF := Lib.hid hf
              clear hf
              have HX := Lib.hid (show rGo (us.take (k + 1)) (us.drop (k + 1)) = rGo [] us by rw [← HG.out, HST.out, HO.out]; simp [hs, HK0.out, HFF.out])
              clear hnb1
              go_wp2_with (first | (go_at_call 26; refine (HCN.out _).mono ?_; rintro e w' ⟨rfl, rfl⟩) | (go_at_call 95; refine HCS.out.mono ?_; rintro e w2 ⟨rfl, hb2⟩; have q1 := (HYu.out.below HYu.out.lt hb2).cell 1 (.int .i64 u.factor) rfl; have HB2 := Lib.hid (HBW1.out.trans (hb2.mono HBW1.out.size)); clear hb2))
              go_roundw
              case rel => exact ⟨k + 1, by simp, hlt, HX.out, HB2.out⟩
              case measure => simp [intOf]; omega
            · have b4 : (u.factor != 1) = true := by simp [hf]
              have HX := Lib.hid (HBAD.out (by rw [HO.out]; simp [hs, HK0.out, hf]))
              clear hnb1
              go_wp2_with (first | (go_at_call 26; refine (HCN.out _).mono ?_; rintro e w' ⟨rfl, rfl⟩) | (go_at_call 95; refine HCS.out.mono ?_; rintro e w2 ⟨rfl, hb2⟩; have q1 := (HYu.out.below HYu.out.lt hb2).cell 1 (.int .i64 u.factor) rfl; have HB2 := Lib.hid (HBW1.out.trans (hb2.mono HBW1.out.size)); clear hb2))
              go_ret
              exact ⟨by rw [HX.out] <;> rfl, below_then HB0.out HB2.out⟩
          · have b2 : ((k : Int) == 0) = false := by simp [hk0]
            have b3 : decide (0 < k) = true := decide_eq_true (by omega)
            have HK0 := Lib.hid hk0
            clear hk0
            by_cases hf : u.factor < 2
            · have b4 : decide (u.factor < 2) = true := decide_eq_true hf
              have HX := Lib.hid (HBAD.out (by rw [HO.out]; rw [decide_eq_true hs, if_neg HK0.out]; simp; omega))
              clear hnb1
              go_wp2_with (first | (go_at_call 26; refine (HCN.out _).mono ?_; rintro e w' ⟨rfl, rfl⟩) | (go_at_call 95; refine HCS.out.mono ?_; rintro e w2 ⟨rfl, hb2⟩; have q1 := (HYu.out.below HYu.out.lt hb2).cell 1 (.int .i64 u.factor) rfl; have HB2 := Lib.hid (HBW1.out.trans (hb2.mono HBW1.out.size)); clear hb2))
              go_ret
              exact ⟨by rw [HX.out] <;> rfl, below_then HB0.out HB2.out⟩
            · have b4 : decide (u.factor < 2) = false := decide_eq_false hf
              by_cases hf2 : 60 < u.factor
              · have b5 : decide (60 < u.factor) = true := decide_eq_true hf2
                have HX := Lib.hid (HBAD.out (by rw [HO.out]; rw [decide_eq_true hs, if_neg HK0.out]; simp; omega))
                clear hnb1
                go_wp2_with (first | (go_at_call 26; refine (HCN.out _).mono ?_; rintro e w' ⟨rfl, rfl⟩) | (go_at_call 95; refine HCS.out.mono ?_; rintro e w2 ⟨rfl, hb2⟩; have q1 := (HYu.out.below HYu.out.lt hb2).cell 1 (.int .i64 u.factor) rfl; have HB2 := Lib.hid (HBW1.out.trans (hb2.mono HBW1.out.size)); clear hb2))
                go_ret
                exact ⟨by rw [HX.out] <;> rfl, below_then HB0.out HB2.out⟩
              · have b5 : decide (60 < u.factor) = false := decide_eq_false hf2
                have HX := Lib.hid (show rGo (us.take (k + 1)) (us.drop (k + 1)) = rGo [] us by rw [← HG.out, HST.out, HO.out]; rw [decide_eq_true hs, if_neg HK0.out, decide_eq_true (by omega : 2 ≤ u.factor), decide_eq_true (by omega : u.factor ≤ 60)]; simp)
                clear hnb1
                go_wp2_with (first | (go_at_call 26; refine (HCN.out _).mono ?_; rintro e w' ⟨rfl, rfl⟩) | (go_at_call 95; refine HCS.out.mono ?_; rintro e w2 ⟨rfl, hb2⟩; have q1 := (HYu.out.below HYu.out.lt hb2).cell 1 (.int .i64 u.factor) rfl; have HB2 := Lib.hid (HBW1.out.trans (hb2.mono HBW1.out.size)); clear hb2))
                go_roundw
                case rel => exact ⟨k + 1, by simp, hlt, HX.out, HB2.out⟩
                case measure => simp [intOf]; omega
        · have b1 : (si != (k : Int)) = true := by simp [hs]
          have HX := Lib.hid (HBAD.out (by rw [HO.out]; simp [hs]))
          clear hnb1
          go_wp2_with (first | (go_at_call 26; refine (HCN.out _).mono ?_; rintro e w' ⟨rfl, rfl⟩) | (go_at_call 95; refine HCS.out.mono ?_; rintro e w2 ⟨rfl, hb2⟩; have q1 := (HYu.out.below HYu.out.lt hb2).cell 1 (.int .i64 u.factor) rfl; have HB2 := Lib.hid (HBW1.out.trans (hb2.mono HBW1.out.size)); clear hb2))
          go_ret
          exact ⟨by rw [HX.out] <;> rfl, below_then HB0.out HB2.out⟩
    · have HR := Lib.hid (show rGo [] us = true by rw [← HG.out]; exact rGo_end (by omega))
      have HV := Lib.hid (values_any nm A c us wr (HS.out.below HB.out) (rGo_range HR.out) h3)
      by_cases hful : (yl us 1 (by decide)).length = us.length
      · have HX := Lib.hid (show checkF nm us = 0 by rw [checkF_r, rcheckB, H1.out, HR.out]; simp [h2, h3, hful])
        rw [decide_eq_true hful] at HV
        clear hful
        go_wp2_with (go_at_call 96; refine HV.out.mono ?_; rintro e w2 ⟨r, rfl, hb2, _⟩)
        go_ret
        exact ⟨by rw [HX.out] <;> rfl, below_then HB.out hb2⟩
      · have HX := Lib.hid (show checkF nm us = 10 by rw [checkF_r, rcheckB]; simp [hful])
        rw [decide_eq_false hful] at HV
        clear hful
        go_wp2_with (go_at_call 96; refine HV.out.mono ?_; rintro e w2 ⟨r, rfl, hb2, _⟩)
        go_ret
        exact ⟨by rw [HX.out] <;> rfl, below_then HB.out hb2⟩

set_option maxRecDepth 100000 in
set_option maxHeartbeats 1000000 in
theorem rcheck_no (nm : ByteArray) (hnm : (nm.size : Int) ≤ 9223372036854775807) (A : Option Addr) (c : Nat) (us : List Un) (w : World) (h1 : nameB nm = false) :
    Calls Tryd.prog 32 #[.agg #[.string nm, .slice A us.length c]] w fun e w' => e = .returned (.int .i64 (checkF nm us)) ∧ Below w.heap.size w w' := by
  have HX := Lib.hid (show checkF nm us = 10 by rw [checkF_r, rcheckB]; simp [h1])
  go_enter Tryd.func32, Tryd.ntmps32
  go_wp2_with (go_at_call 26; refine (risName_any nm _ hnm).mono ?_; rintro e w' ⟨rfl, rfl⟩)
  go_ret
  exact ⟨by rw [HX.out] <;> rfl, below_alloc' _ _⟩
set_option maxRecDepth 100000 in
set_option maxHeartbeats 1000000 in
theorem rcheck_empty (nm : ByteArray) (hnm : (nm.size : Int) ≤ 9223372036854775807) (A : Option Addr) (c : Nat) (us : List Un) (w : World) (h1 : nameB nm = true) (h2 : ¬ 1 ≤ us.length) :
    Calls Tryd.prog 32 #[.agg #[.string nm, .slice A us.length c]] w fun e w' => e = .returned (.int .i64 (checkF nm us)) ∧ Below w.heap.size w w' := by
  have HX := Lib.hid (show checkF nm us = 10 by rw [checkF_r, rcheckB, decide_eq_false h2]; simp)
  have d1 : decide ((us.length : Int) < 1) = true := decide_eq_true (by omega)
  clear h2
  go_enter Tryd.func32, Tryd.ntmps32
  go_wp2_with (go_at_call 26; refine (risName_any nm _ hnm).mono ?_; rintro e w' ⟨rfl, rfl⟩)
  go_ret
  exact ⟨by rw [HX.out] <;> rfl, below_alloc' _ _⟩
set_option maxRecDepth 100000 in
set_option maxHeartbeats 1000000 in
theorem rcheck_long (nm : ByteArray) (hnm : (nm.size : Int) ≤ 9223372036854775807) (A : Option Addr) (c : Nat) (us : List Un) (w : World) (h1 : nameB nm = true) (h3 : 12 < us.length) :
    Calls Tryd.prog 32 #[.agg #[.string nm, .slice A us.length c]] w fun e w' => e = .returned (.int .i64 (checkF nm us)) ∧ Below w.heap.size w w' := by
  have HX := Lib.hid (show checkF nm us = 10 by rw [checkF_r, rcheckB, decide_eq_false (Nat.not_le.2 h3)]; simp)
  have d1 : decide ((us.length : Int) < 1) = false := decide_eq_false (by omega)
  have d2 : decide ((12 : Int) < us.length) = true := decide_eq_true (by omega)
  go_enter Tryd.func32, Tryd.ntmps32
  go_wp2_with (go_at_call 26; refine (risName_any nm _ hnm).mono ?_; rintro e w' ⟨rfl, rfl⟩)
  go_ret
  exact ⟨by rw [HX.out] <;> rfl, below_alloc' _ _⟩

/-- The reference's Check is Check. -/
theorem rcheck_any (nm : ByteArray) (hnm : (nm.size : Int) ≤ 9223372036854775807) (A : Option Addr) (c : Nat) (us : List Un) (w : World) (hsl : Sl w 2 (.slice A us.length c) (unitsV us)) :
    Calls Tryd.prog 32 #[.agg #[.string nm, .slice A us.length c]] w fun e w' => e = .returned (.int .i64 (checkF nm us)) ∧ Below w.heap.size w w' := by
  cases h1 : nameB nm with
  | false => exact rcheck_no nm hnm A c us w h1
  | true =>
    by_cases h2 : 1 ≤ us.length
    · by_cases h3 : us.length ≤ 12
      · exact rcheck_loop nm hnm A c us w hsl h1 h2 h3
      · exact rcheck_long nm hnm A c us w h1 (by omega)
    · exact rcheck_empty nm hnm A c us w h1 h2
end Go.Proofs.YtmibpncmebhbjaaDoor
