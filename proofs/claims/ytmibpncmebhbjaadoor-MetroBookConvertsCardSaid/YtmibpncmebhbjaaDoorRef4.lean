/- The walks of Value, CopyLadder, SameLadder of the reference. -/
import Derived.Test.YtmibpncmebhbjaaDoorRef3
namespace Go.Proofs.YtmibpncmebhbjaaDoor
open Go Go.RowKit Go.Shelf
attribute [local go_sem] Oper.semAt_some

set_option maxRecDepth 100000 in
set_option maxHeartbeats 1000000 in
/-- The reference's Value is Value. -/
theorem rvalue_any (nm : ByteArray) (hnm : (nm.size : Int) ≤ 9223372036854775807) (A : Option Addr) (c : Nat) (us : List Un) (s : ByteArray) (w : World) (hsl : Sl w 2 (.slice A us.length c) (unitsV us)) :
    Calls Tryd.prog 30 #[.agg #[.string nm, .slice A us.length c], .string s] w fun e w' => e = .returned (.tuple #[.int .i64 (valueF nm us s).1, .int .i64 (valueF nm us s).2]) ∧ Below w.heap.size w w' := by
  have hY := Cel.new w 33 #[.string nm, .slice A us.length c]
  have hB0 : Below w.heap.size w (w.alloc (.cells #[.string nm, .slice A us.length c] 33)) := below_alloc' _ _
  obtain ⟨W, hW⟩ : ∃ W, w.alloc (.cells #[.string nm, .slice A us.length c] 33) = W := ⟨_, rfl⟩
  rw [hW] at hY hB0
  have HS := Lib.hid (hsl.below hB0)
  have HY := Lib.hid hY
  have HB0 := Lib.hid hB0
  have a0 := hY.cell 0 (.string nm) rfl
  have a1 := hY.cell 1 (.slice A us.length c) rfl
  have HCK := Lib.hid (rcheck_any nm hnm A c us W (hsl.below hB0))
  have HBAD := Lib.hid (fun h => valueF_bad (nm := nm) (us := us) s h)
  have HGOOD := Lib.hid (fun h => checkF_zero (nm := nm) (us := us) h)
  have HFULL := Lib.hid (fun h => checkB_full (nm := nm) (us := us) h)
  have HNO := Lib.hid (fun h => valueF_no (nm := nm) (us := us) (s := s) h)
  have HYES := Lib.hid (fun i h => valueF_yes (nm := nm) (us := us) (s := s) (i := i) h)
  have HI := Lib.hid (show sgnI s us = match sgnAt s us with | some i => (i : Int) | none => -1 from rfl)
  clear hsl hY hB0
  go_enter Tryd.func30, Tryd.ntmps30
  by_cases hc : checkF nm us = 0
  · have hne : (checkF nm us != 0) = false := by simp [hc]
    obtain ⟨hf, hl1, hl2⟩ := HGOOD.out hc
    have HF := Lib.hid hf
    have hful := HFULL.out hc
    rcases hat : sgnAt s us with _ | i
    · have HR := Lib.hid (HNO.out hc hat)
      rw [hat] at HI
      have hi := HI.out
      simp only at hi
      clear hf hc hful hat
      generalize checkF nm us = ck at *
      go_wp2_with (first
        | (go_at_call 32; refine HCK.out.mono ?_; rintro e w1 ⟨rfl, hb1⟩; have h1 := HY.out.below HY.out.lt hb1; have b0 := h1.cell 0 (.string nm) rfl; have b1 := h1.cell 1 (.slice A us.length c) rfl)
        | (go_at_call 95; refine (signAt_any nm A c us s w1 (HS.out.below hb1)).mono ?_; rintro e w2 ⟨rfl, hb2⟩; rw [hi]))
      go_ret2
      exact ⟨by rw [HR.out] <;> rfl, below_then HB0.out (below_then hb1 hb2)⟩
    · obtain ⟨v, hv, hR⟩ := HYES.out i hc hat
      have HR := Lib.hid hR
      rw [hat] at HI
      have hi := HI.out
      simp only at hi
      have hil := sgnAt_lt hat
      have HV := Lib.hid hv
      have HFU := Lib.hid hful
      have d0 : decide ((i : Int) < 0) = false := decide_eq_false (by omega)
      clear hf hc hful hat hR hv
      generalize checkF nm us = ck at *
      go_wp2_with (first
        | (go_at_call 32; refine HCK.out.mono ?_; rintro e w1 ⟨rfl, hb1⟩; have h1 := HY.out.below HY.out.lt hb1; have b0 := h1.cell 0 (.string nm) rfl; have b1 := h1.cell 1 (.slice A us.length c) rfl)
        | (go_at_call 95; refine (signAt_any nm A c us s w1 (HS.out.below hb1)).mono ?_; rintro e w2 ⟨rfl, hb2⟩; rw [hi]; have g1 := h1.below h1.lt hb2; have b0' := g1.cell 0 (.string nm) rfl; have b1' := g1.cell 1 (.slice A us.length c) rfl)
        | (go_at_call 96; refine (values_any nm A c us w2 ((HS.out.below hb1).below hb2) HF.out hl2).mono ?_; rintro e w3 ⟨r, rfl, hb3, hr⟩; obtain ⟨A3, c3, rfl, hlc, hcm, hcl⟩ := (hr HFU.out).open1; obtain ⟨ad, rfl, q0⟩ := hcl i (.int .i64 v) (by rw [List.getElem?_map, HV.out]; rfl); simp only [List.length_map] at *; have HLV := Lib.hid (show i < (vals us).length by rw [vals, List.length_map, HFU.out]; exact hil)))
      have hlv := HLV.out
      go_wp2
      go_ret2
      exact ⟨by rw [HR.out] <;> rfl, below_then HB0.out (below_then hb1 (below_then hb2 hb3))⟩
  · have hne : (checkF nm us != 0) = true := by simp [hc]
    have HR := Lib.hid (HBAD.out hc)
    clear hc
    generalize checkF nm us = ck at *
    go_wp2_with (go_at_call 32; refine HCK.out.mono ?_; rintro e w1 ⟨rfl, hb1⟩)
    go_ret2
    exact ⟨by rw [HR.out] <;> rfl, below_then HB0.out hb1⟩
end Go.Proofs.YtmibpncmebhbjaaDoor
