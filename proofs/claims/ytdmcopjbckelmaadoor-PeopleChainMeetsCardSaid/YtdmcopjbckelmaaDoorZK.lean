/- Common to all rows of this seat: what the listed variable gives; the witness's heap. -/
import Derived.Test.YtdmcopjbckelmaaDoorZA
import Derived.SevenTiedAt
import Derived.Test.YtdmcopjbckelmaaDoorRows
import Derived.ProofKit
import Derived.LaidMore
import Derived.OpenShut
import Derived.Stop.Joined
namespace Go.Proofs.YtdmcopjbckelmaaDoor
open Go Go.ChangeShapes Go.WideShapes Go.ChangeAt Go.WideMaps Go.WideElems Go.RowKit

abbrev laidZ : List (String × DataW Unit) := [("bulla/metro.zero", Rows.laid_bulla_metro_zero)]
theorem gZero : Tryd.prog.globalNamed "bulla/metro.zero" = some 0 := by kernel_rfl
theorem tZero : (Tryd.prog.globals[0]?).map (·.type) = some 82 := by kernel_rfl
theorem door_met (os : Os) (args : Array Value) : laidMetH Tryd.prog laidZ ((World.doorLaid Tryd.prog 400 os).forCall (fun _ _ => 0) ⟨#[], args, []⟩).memory :=
  laidMetH_of_parts3 (fuel := 8) (laidMet_of_run' 8 (by kernel_rfl) (by kernel_rfl)) (by kernel_rfl) (by kernel_rfl)
/-- What the condition gives the walks. -/
theorem of_laid {W : World} (h : laidMetH Tryd.prog laidZ W) : Zw W := by
  rw [MakeChecks.laidMetH_plain _ _ _ (by kernel_rfl)] at h
  obtain ⟨ps, ⟨g0, t0, cs0, f0, p0, q0, hg0, ht0, hv0, hd0, _, _⟩, _, _⟩ := h
  obtain rfl := Option.some.inj (gZero.symm.trans hg0)
  obtain rfl := Option.some.inj (tZero.symm.trans ht0)
  obtain ⟨y0, y1, n, hx, hl, h0, h1⟩ := trod_struct2 Tryd.underlying82 hd0
  have c3 : Tryd.prog.cellsOf 3 = 1 := by kernel_rfl
  rw [c3] at h0 h1
  obtain ⟨m0, e0, x0, _⟩ := DataW.trod_int Tryd.underlying3 h0
  obtain ⟨m1, e1, x1, _⟩ := DataW.trod_int Tryd.underlying3 h1
  subst x0
  subst x1
  simp only [Rows.laid_bulla_metro_zero, Prod.mk.injEq, DataW.agg.injEq, List.cons.injEq, DataW.lit.injEq, Lit.int.injEq, true_and, and_true] at hx
  obtain ⟨⟨rfl, rfl⟩, _⟩ := hx
  have g0 := World.var?_cell hg0 hv0 0
  have g1 := World.var?_cell hg0 hv0 1
  obtain ⟨l⟩ := cs0
  match l, e0, e1 with
  | a :: b :: l, e0, e1 =>
    simp at e0 e1
    subst e0
    subst e1
    exact ⟨by simpa using g0, by simpa using g1⟩
  | [a], e0, e1 => simp at e1
  | [], e0, e1 => simp at e0
theorem main_is : Tryd.prog.mainIs = some (true, "4764b70f8623470a50b7ce1acf80ec698c3f3e3bb83f6c5d10683b75cb259304".toList) := by kernel_rfl
theorem no_looks : false = Tryd.prog.looks [] := by kernel_rfl
end Go.Proofs.YtdmcopjbckelmaaDoor
