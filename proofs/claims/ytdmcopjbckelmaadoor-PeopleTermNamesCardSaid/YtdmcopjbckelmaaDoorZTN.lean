/- PeopleTermNames: the walk. Condition: the package variable zero of metro holds what the program's text lays in it. -/
import Derived.Test.YtdmcopjbckelmaaDoorZH
import Derived.Test.YtdmcopjbckelmaaDoorZTM
namespace Go.Proofs.YtdmcopjbckelmaaDoor
open Go Go.RowKit Go.Shelf
attribute [local go_sem] Oper.semAt_some

set_option maxRecDepth 100000 in
set_option maxHeartbeats 1000000 in
theorem termNames_any (up dn : Int) (w : World) (hz : Zw w) : Calls Tryd.prog 8 #[.int .i64 up, .int .i64 dn] w fun e w' => e = .returned (.bool true) ∧ Below w.heap.size w w' := by
  have H1 := Lib.hid (term_any up dn w)
  have H2 := Lib.hid (fun w' => rterm_any up dn w')
  have H3 := Lib.hid (fun w' h => works_any w' h)
  have HZ := Lib.hid hz
  clear hz
  generalize termF up dn = s at *
  go_enter Tryd.func8, Tryd.ntmps8
  go_wp2_with fail
  refine H1.out.mono ?_
  rintro e w1 ⟨rfl, hb1⟩
  have HB1 := Lib.hid hb1
  clear hb1
  go_wp2_with fail
  refine (H2.out _).mono ?_
  rintro e w2 ⟨rfl, rfl⟩
  go_wp2_with fail
  refine (H3.out _ (HZ.out.below HB1.out)).mono ?_
  rintro e w3 ⟨rfl, hb3⟩
  have HB3 := Lib.hid (HB1.out.trans (hb3.mono HB1.out.size))
  clear hb3
  go_wp2
  go_ret
  exact ⟨rfl, HB3.out⟩
end Go.Proofs.YtdmcopjbckelmaaDoor
