/- Common to all rows of this seat: what the listed variable gives; the witness's heap. -/
import Derived.Test.YtdmcopjbckelmaaGreatDoorZA
import Derived.SevenTiedAt
import Derived.Test.YtdmcopjbckelmaaGreatDoorRows
import Derived.ProofKit
import Derived.LaidMore
import Derived.OpenShut
import Derived.Stop.Joined
namespace Go.Proofs.YtdmcopjbckelmaaGreatDoor
open Go Go.ChangeShapes Go.WideShapes Go.ChangeAt Go.WideMaps Go.WideElems Go.RowKit

abbrev laidZ : List (String × DataW Unit) := [("bulla/metro.zero", Rows.laid_bulla_metro_zero)]
theorem gZero : Tryz.prog.globalNamed "bulla/metro.zero" = some 0 := by kernel_rfl
theorem tZero : (Tryz.prog.globals[0]?).map (·.type) = some 32 := by kernel_rfl
theorem door_met (os : Os) (args : Array Value) : laidMetH Tryz.prog laidZ ((World.doorLaid Tryz.prog 400 os).forCall (fun _ _ => 0) ⟨#[], args, []⟩).memory :=
  laidMetH_of_parts3 (fuel := 8) (laidMet_of_run' 8 (by kernel_rfl) (by kernel_rfl)) (by kernel_rfl) (by kernel_rfl)
/-- What the condition gives the walks. -/
theorem of_laid {W : World} (h : laidMetH Tryz.prog laidZ W) : Zw W := by
  rw [MakeChecks.laidMetH_plain _ _ _ (by kernel_rfl)] at h
  obtain ⟨ps, ⟨g0, t0, cs0, f0, p0, q0, hg0, ht0, hv0, hd0, _, _⟩, _, _⟩ := h
  obtain rfl := Option.some.inj (gZero.symm.trans hg0)
  obtain rfl := Option.some.inj (tZero.symm.trans ht0)
  obtain ⟨y0, y1, n, hx, hl, h0, h1⟩ := trod_struct2 Tryz.underlying32 hd0
  have c3 : Tryz.prog.cellsOf 3 = 1 := by kernel_rfl
  rw [c3] at h0 h1
  obtain ⟨m0, e0, x0, _⟩ := DataW.trod_int Tryz.underlying3 h0
  obtain ⟨m1, e1, x1, _⟩ := DataW.trod_int Tryz.underlying3 h1
  subst x0
  subst x1
  simp only [Rows.laid_bulla_metro_zero, Prod.mk.injEq, DataW.agg.injEq, List.cons.injEq, DataW.lit.injEq, Lit.int.injEq, true_and, and_true] at hx
  obtain ⟨⟨rfl, rfl⟩, _⟩ := hx
  have g0 := World.var?_cell hg0 hv0 0
  have g1 := World.var?_cell hg0 hv0 1
  obtain ⟨l⟩ := cs0
  match l, e0, e1 with
  | a :: b :: l, e0, e1 =>
    simp at e0 e1
    subst e0
    subst e1
    exact ⟨by simpa using g0, by simpa using g1⟩
  | [a], e0, e1 => simp at e1
  | [], e0, e1 => simp at e0
theorem main_is : Tryz.prog.mainIs = some (true, "fc9df83ae5ae594bf27bb4da61373a51c620c849ebaf90019e4fb7ebb6289732".toList) := by kernel_rfl
theorem no_looks : false = Tryz.prog.looks [] := by kernel_rfl
end Go.Proofs.YtdmcopjbckelmaaGreatDoor
