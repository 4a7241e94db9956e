/- metroRatioMakes: the closed facts that the row's builder asks. metroRatioMakes: the closed facts put together. -/
import Derived.Test.YtmibpncmebhbjaaDoorRows
import Derived.JoinedOf
namespace Go.Proofs.YtmibpncmebhbjaaDoor
section
open Go

theorem metroRatioMakes_j0 : Rows.metroRatioMakesRow.wf (OpenSpec.ofChange Rows.metroRatioMakesSpec) = true := by kernel_rfl
theorem metroRatioMakes_j1 : laidOutB Tryd.prog = true := by kernel_rfl
theorem metroRatioMakes_j2 : mapsRowed Tryd.prog = true := by kernel_rfl
theorem metroRatioMakes_j3 : Tryd.f3.params.all (Tryd.prog.readableRec ·) = true := by kernel_rfl
theorem metroRatioMakes_j4 : namedTie Tryd.prog Rows.metroRatioMakesRow.named Rows.metroRatioMakesSpec.vars = true := by kernel_rfl
theorem metroRatioMakes_j5 : (Rows.metroRatioMakesRow.stops == []) = true := by kernel_rfl
theorem metroRatioMakes_j6 : (Tryd.prog.stops == []) = true := by kernel_rfl
theorem metroRatioMakes_j7 : (Rows.metroRatioMakesRow.knobs == []) = true := by kernel_rfl
theorem metroRatioMakes_j8 : (Tryd.prog.stopKnobs == []) = true := by kernel_rfl
theorem metroRatioMakes_j9 : (Rows.metroRatioMakesRow.inPlace == Tryd.prog.inPlace 3) = true := by kernel_rfl
theorem metroRatioMakes_j10 : (Rows.metroRatioMakesRow.unfollowed == Tryd.prog.unfollowed 3) = true := by kernel_rfl
theorem metroRatioMakes_j11 : (Rows.metroRatioMakesRow.recurses == Tryd.prog.recurses 3) = true := by kernel_rfl
theorem metroRatioMakes_j12 : (Rows.metroRatioMakesRow.named == Tryd.prog.varsNamed 3) = true := by kernel_rfl
theorem metroRatioMakes_j13 : (Rows.metroRatioMakesRow.maps == (Tryd.f3.params.toList ++ Rows.metroRatioMakesSpec.plain.varTypes Tryd.prog).any (Tryd.prog.mapsRec ·)) = true := by kernel_rfl
theorem metroRatioMakes_j14 : (Rows.metroRatioMakesRow.ifaces == (Tryd.f3.params.toList ++ Rows.metroRatioMakesSpec.plain.varTypes Tryd.prog).any (Tryd.prog.ifacesRec ·)) = true := by kernel_rfl
theorem metroRatioMakes_j15 : (Rows.metroRatioMakesRow.mapsOut == Tryd.prog.mapsAmong Tryd.f3.resultTypes.toList) = true := by kernel_rfl
theorem metroRatioMakes_j16 : (Rows.metroRatioMakesRow.loops == (Tryd.f3.params.toList ++ Rows.metroRatioMakesSpec.plain.varTypes Tryd.prog).any (Tryd.prog.loopsFrom ·)) = true := by kernel_rfl
theorem metroRatioMakes_j17 : (Rows.metroRatioMakesRow.wideKeys == (Tryd.f3.params.toList ++ Rows.metroRatioMakesSpec.plain.varTypes Tryd.prog ++ Tryd.f3.resultTypes.toList).any (Tryd.prog.wideKeysFrom ·)) = true := by kernel_rfl
theorem metroRatioMakes_j18 : Rows.metroRatioMakesSpec.vars.all (Tryd.prog.varReadable ·) = true := by kernel_rfl
theorem metroRatioMakes_j19 : Tryd.f3.resultTypes.all (fun t => Tryd.prog.readableRec t && decide (t < Tryd.prog.types.size)) = true := by kernel_rfl
theorem metroRatioMakes_j20 : (Rows.metroRatioMakesRow.ifacesOut == Tryd.f3.resultTypes.toList.any (Tryd.prog.ifacesRec ·)) = true := by kernel_rfl
theorem metroRatioMakes_j21 : (Rows.metroRatioMakesRow.loopsOut == Tryd.f3.resultTypes.toList.any (Tryd.prog.loopsFrom ·)) = true := by kernel_rfl
theorem metroRatioMakes_j22 : (Rows.metroRatioMakesRow.plainKeys == Tryd.prog.plainKeys) = true := by kernel_rfl
theorem metroRatioMakes_j23 : Rows.metroRatioMakesRow.shortTexts.isNone = true := by kernel_rfl
theorem metroRatioMakes_j24 : Tryd.prog.stopsHeard = true := by kernel_rfl
theorem metroRatioMakes_j25 : Tryd.prog.mayEnter = true := by kernel_rfl
theorem metroRatioMakes_j26 : (Rows.metroRatioMakesRow.lifted == Tryd.prog.liftsFinal) = true := by kernel_rfl
theorem metroRatioMakes_j27 : (Tryd.prog.make == some Rows.metroRatioMakesRow.make) = true := by kernel_rfl
theorem metroRatioMakes_j29 : (Rows.metroRatioMakesRow.pinned == Rows.metroRatioMakesRow.pinnedBy) = true := by kernel_rfl
theorem metroRatioMakes_j30 : (Rows.metroRatioMakesRow.veiled == (Tryd.f3.params.toList ++ Rows.metroRatioMakesSpec.plain.varTypes Tryd.prog ++ Tryd.f3.resultTypes.toList).any (Tryd.prog.veiledRec ·)) = true := by kernel_rfl
theorem metroRatioMakes_j31 : Rows.metroRatioMakesRow.veiledFits Tryd.prog Tryd.f3.params.toList (Tryd.f3.params.toList ++ Rows.metroRatioMakesSpec.plain.varTypes Tryd.prog ++ Tryd.f3.resultTypes.toList) = true := by kernel_rfl
end

section
open Go

set_option maxRecDepth 100000 in
theorem metroRatioMakes_facts : joinedFacts Tryd.prog 3 Tryd.f3 Rows.metroRatioMakesSpec Rows.metroRatioMakesRow = true := by
  unfold joinedFacts
  simp only [Bool.and_eq_true]
  exact ⟨⟨⟨⟨⟨⟨⟨⟨⟨⟨⟨⟨⟨⟨⟨⟨⟨⟨⟨⟨⟨⟨⟨⟨⟨⟨⟨⟨⟨⟨⟨metroRatioMakes_j0, metroRatioMakes_j1⟩, metroRatioMakes_j2⟩, metroRatioMakes_j3⟩, metroRatioMakes_j4⟩, metroRatioMakes_j5⟩, metroRatioMakes_j6⟩, metroRatioMakes_j7⟩, metroRatioMakes_j8⟩, metroRatioMakes_j9⟩, metroRatioMakes_j10⟩, metroRatioMakes_j11⟩, metroRatioMakes_j12⟩, metroRatioMakes_j13⟩, metroRatioMakes_j14⟩, metroRatioMakes_j15⟩, metroRatioMakes_j16⟩, metroRatioMakes_j17⟩, metroRatioMakes_j18⟩, metroRatioMakes_j19⟩, metroRatioMakes_j20⟩, metroRatioMakes_j21⟩, metroRatioMakes_j22⟩, metroRatioMakes_j23⟩, metroRatioMakes_j24⟩, metroRatioMakes_j25⟩, metroRatioMakes_j26⟩, metroRatioMakes_j27⟩, (by kernel_rfl)⟩, metroRatioMakes_j29⟩, metroRatioMakes_j30⟩, metroRatioMakes_j31⟩
end
end Go.Proofs.YtmibpncmebhbjaaDoor
