/- MetroLadderReads: the walk. -/
import Derived.Test.YtmibpncmebhbjaaDoorP10
import Derived.Test.YtmibpncmebhbjaaDoorRef5
namespace Go.Proofs.YtmibpncmebhbjaaDoor
open Go Go.RowKit Go.Shelf
attribute [local go_sem] Oper.semAt_some

set_option maxRecDepth 100000 in
set_option maxHeartbeats 2000000 in
theorem ladderReads_any (nm : ByteArray) (hnm : (nm.size : Int) ≤ 9223372036854775807) (A : Option Addr) (c : Nat) (us : List Un) (s : ByteArray) (w : World) (hz : Zw w) (hsl : Sl w 2 (.slice A us.length c) (unitsV us)) (hlen : us.length * 24 ≤ 140737488355328) :
    Calls Tryd.prog 4 #[.agg #[.string nm, .slice A us.length c], .string s] w fun e w' => e = .returned (.bool true) ∧ Below w.heap.size w w' := by
  have hY := Cel.new w 33 #[.string nm, .slice A us.length c]
  have hB0 : Below w.heap.size w (w.alloc (.cells #[.string nm, .slice A us.length c] 33)) := below_alloc' _ _
  obtain ⟨W, hW⟩ : ∃ W, w.alloc (.cells #[.string nm, .slice A us.length c] 33) = W := ⟨_, rfl⟩
  rw [hW] at hY hB0
  have HS := Lib.hid (hsl.below hB0)
  have HY := Lib.hid hY
  have HB0 := Lib.hid hB0
  have a0 := hY.cell 0 (.string nm) rfl
  have a1 := hY.cell 1 (.slice A us.length c) rfl
  have HCO := Lib.hid (copyLadder_any nm A c us W (hsl.below hB0) hlen)
  have HZ := Lib.hid (hz.below hB0)
  have C0 := Lib.hid (fun A c w' (h : Sl w' 2 (.slice A us.length c) (unitsV us)) => value_any nm hnm (.agg #[.string nm, .slice A us.length c]) us s w' ⟨A, _, c, rfl, h⟩)
  have C1 := Lib.hid (fun A c w' (h : Sl w' 2 (.slice A us.length c) (unitsV us)) => rvalue_any nm hnm A c us s w' h)
  have C2 := Lib.hid (fun A c w' (h : Sl w' 2 (.slice A us.length c) (unitsV us)) => check_any nm hnm (.agg #[.string nm, .slice A us.length c]) us w' ⟨A, _, c, rfl, h⟩)
  have C3 := Lib.hid (fun A c w' (h : Sl w' 2 (.slice A us.length c) (unitsV us)) => rcheck_any nm hnm A c us w' h)
  have C4 := Lib.hid (fun A c A' c' w' (h : Sl w' 2 (.slice A us.length c) (unitsV us)) (h' : Sl w' 2 (.slice A' us.length c') (unitsV us)) => sameLadder_yes nm A A' c c' us w' h h')
  have C5 : Hid (∀ w', Below W.heap.size W w' → Calls Tryd.prog 27 #[] w' fun e w'' => e = .returned (.bool true) ∧ Below w'.heap.size w' w'') := fun w' hb => works_any w' (HZ.out.below hb)
  clear hsl hY hB0 hz
  generalize valueF nm us s = q at *
  generalize checkF nm us = ck at *
  obtain ⟨vn, ve⟩ := q
  go_enter Tryd.func4, Tryd.ntmps4
  go_wp2_with (first
    | (go_at_call 28; refine HCO.out.mono ?_; rintro e w1 ⟨A1, c1, rfl, hb1, ho1⟩; have hY1 := HY.out.below HY.out.lt hb1; have HO := Lib.hid ((Sl.of_own ho1).alloc (.cells #[.string nm, .slice A1 us.length c1] 33)); have HY1 := Lib.hid (hY1.alloc (.cells #[.string nm, .slice A1 us.length c1] 33)); have HN1 := Lib.hid (Cel.new w1 33 #[.string nm, .slice A1 us.length c1]); have HB1 := Lib.hid (hb1.alloc hb1.size (.cells #[.string nm, .slice A1 us.length c1] 33)); clear ho1 hY1 hb1; have b0 := HN1.out.cell 0 (.string nm) rfl; have b1 := HN1.out.cell 1 (.slice A1 us.length c1) rfl)
    | (go_at_call 29; refine (C0.out A1 c1 _ HO.out).mono ?_; rintro e w2 ⟨rfl, hb2⟩; have HO2 := Lib.hid (HO.out.below hb2); have HY2 := Lib.hid (HY1.out.below HY1.out.lt hb2); have HN2 := Lib.hid (HN1.out.below HN1.out.lt hb2); have HB2 := Lib.hid (HB1.out.trans (hb2.mono HB1.out.size)); clear hb2; have e0 := HY2.out.cell 0 (.string nm) rfl; have e1 := HY2.out.cell 1 (.slice A us.length c) rfl)
    | (go_at_call 30; refine (C1.out A c _ (HS.out.below HB2.out)).mono ?_; rintro e w3 ⟨rfl, hb3⟩; have HO3 := Lib.hid (HO2.out.below hb3); have HY3 := Lib.hid (HY2.out.below HY2.out.lt hb3); have HN3 := Lib.hid (HN2.out.below HN2.out.lt hb3); have HB3 := Lib.hid (HB2.out.trans (hb3.mono HB2.out.size)); clear hb3))
  have HK : Hid (∀ w', Below w3.heap.size w3 w' → w'.cell? ⟨w1.heap.size, 0, none⟩ = some (.string nm) ∧ w'.cell? ⟨w1.heap.size, 1, none⟩ = some (.slice A1 us.length c1) ∧ w'.cell? ⟨w.heap.size, 0, none⟩ = some (.string nm) ∧ w'.cell? ⟨w.heap.size, 1, none⟩ = some (.slice A us.length c)) := by
    intro w' hb'
    have z1 := celBelow HN3.out hb'
    have z2 := celBelow HY3.out hb'
    exact ⟨z1.cell 0 _ rfl, z1.cell 1 _ rfl, z2.cell 0 _ rfl, z2.cell 1 _ rfl⟩
  have HSo : Hid (∀ w', Below w3.heap.size w3 w' → Sl w' 2 (.slice A1 us.length c1) (unitsV us)) := fun w' hb' => HO3.out.below hb'
  have HSl : Hid (∀ w', Below w3.heap.size w3 w' → Sl w' 2 (.slice A us.length c) (unitsV us)) := fun w' hb' => (HS.out.below HB3.out).below hb'
  clear a0 a1 b0 b1 e0 e1
  go_region_held3? (fun w' => w'.cell? ⟨w1.heap.size, 0, none⟩ = some (.string nm) ∧ w'.cell? ⟨w1.heap.size, 1, none⟩ = some (.slice A1 us.length c1) ∧ w'.cell? ⟨w.heap.size, 0, none⟩ = some (.string nm) ∧ w'.cell? ⟨w.heap.size, 1, none⟩ = some (.slice A us.length c))
    (first | exact HK.out _ hb | exact HK.out _ (below_undrew (Below.refl _ _))) (first
    | (go_at_call 31; first
        | (refine (C2.out A1 c1 _ (HSo.out _ hb)).mono ?_; rintro e w4 ⟨rfl, hb'⟩; have hb := below_then hb hb')
        | (refine (C2.out A1 c1 _ (HSo.out _ (below_undrew (Below.refl _ _)))).mono ?_; rintro e w4 ⟨rfl, hb'⟩; have hb : Below w3.heap.size w3 w4 := below_undrew hb'))
    | (go_at_call 32; first
        | (refine (C3.out A c _ (HSl.out _ hb)).mono ?_; rintro e w5 ⟨rfl, hb'⟩; have hb := below_then hb hb')
        | (refine (C3.out A c _ (HSl.out _ (below_undrew (Below.refl _ _)))).mono ?_; rintro e w5 ⟨rfl, hb'⟩; have hb : Below w3.heap.size w3 w5 := below_undrew hb'))
    | (go_at_call 33; refine (C4.out A1 c1 A c _ (HSo.out _ hb) (HSl.out _ hb)).mono ?_; rintro e w6 ⟨rfl, hb'⟩; have hb := below_then hb hb')
    | (go_at_call 27; refine (C5.out _ (HB3.out.trans (hb.mono HB3.out.size))).mono ?_; rintro e w7 ⟨rfl, hb'⟩; have hb := below_then hb hb'))
  all_goals (
    go_wp2
    go_ret
    exact ⟨rfl, below_then HB0.out (HB3.out.trans (hb.mono HB3.out.size))⟩)
end Go.Proofs.YtmibpncmebhbjaaDoor
