/- metroBookMakes: the closed facts that the row's builder asks. -/
import Derived.Test.YtmibpncmebhbjaaDoorP12
import Derived.Test.YtmibpncmebhbjaaDoorRows
import Derived.JoinedOf
namespace Go.Proofs.YtmibpncmebhbjaaDoor
open Go

theorem metroBookMakes_j0 : Rows.metroBookMakesRow.wf (OpenSpec.ofChange Rows.metroBookMakesSpec) = true := by kernel_rfl
theorem metroBookMakes_j3 : Tryd.f16.params.all (Tryd.prog.readableRec ·) = true := by kernel_rfl
theorem metroBookMakes_j4 : namedTie Tryd.prog Rows.metroBookMakesRow.named Rows.metroBookMakesSpec.vars = true := by kernel_rfl
theorem metroBookMakes_j5 : (Rows.metroBookMakesRow.stops == []) = true := by kernel_rfl
theorem metroBookMakes_j7 : (Rows.metroBookMakesRow.knobs == []) = true := by kernel_rfl
theorem metroBookMakes_j9 : (Rows.metroBookMakesRow.inPlace == Tryd.prog.inPlace 16) = true := by kernel_rfl
theorem metroBookMakes_j10 : (Rows.metroBookMakesRow.unfollowed == Tryd.prog.unfollowed 16) = true := by kernel_rfl
theorem metroBookMakes_j11 : (Rows.metroBookMakesRow.recurses == Tryd.prog.recurses 16) = true := by kernel_rfl
theorem metroBookMakes_j12 : (Rows.metroBookMakesRow.named == Tryd.prog.varsNamed 16) = true := by kernel_rfl
theorem metroBookMakes_j13 : (Rows.metroBookMakesRow.maps == (Tryd.f16.params.toList ++ Rows.metroBookMakesSpec.plain.varTypes Tryd.prog).any (Tryd.prog.mapsRec ·)) = true := by kernel_rfl
theorem metroBookMakes_j14 : (Rows.metroBookMakesRow.ifaces == (Tryd.f16.params.toList ++ Rows.metroBookMakesSpec.plain.varTypes Tryd.prog).any (Tryd.prog.ifacesRec ·)) = true := by kernel_rfl
theorem metroBookMakes_j15 : (Rows.metroBookMakesRow.mapsOut == Tryd.prog.mapsAmong Tryd.f16.resultTypes.toList) = true := by kernel_rfl
theorem metroBookMakes_j16 : (Rows.metroBookMakesRow.loops == (Tryd.f16.params.toList ++ Rows.metroBookMakesSpec.plain.varTypes Tryd.prog).any (Tryd.prog.loopsFrom ·)) = true := by kernel_rfl
theorem metroBookMakes_j17 : (Rows.metroBookMakesRow.wideKeys == (Tryd.f16.params.toList ++ Rows.metroBookMakesSpec.plain.varTypes Tryd.prog ++ Tryd.f16.resultTypes.toList).any (Tryd.prog.wideKeysFrom ·)) = true := by kernel_rfl
theorem metroBookMakes_j18 : Rows.metroBookMakesSpec.vars.all (Tryd.prog.varReadable ·) = true := by kernel_rfl
theorem metroBookMakes_j19 : Tryd.f16.resultTypes.all (fun t => Tryd.prog.readableRec t && decide (t < Tryd.prog.types.size)) = true := by kernel_rfl
theorem metroBookMakes_j20 : (Rows.metroBookMakesRow.ifacesOut == Tryd.f16.resultTypes.toList.any (Tryd.prog.ifacesRec ·)) = true := by kernel_rfl
theorem metroBookMakes_j21 : (Rows.metroBookMakesRow.loopsOut == Tryd.f16.resultTypes.toList.any (Tryd.prog.loopsFrom ·)) = true := by kernel_rfl
theorem metroBookMakes_j22 : (Rows.metroBookMakesRow.plainKeys == Tryd.prog.plainKeys) = true := by kernel_rfl
theorem metroBookMakes_j23 : Rows.metroBookMakesRow.shortTexts.isNone = true := by kernel_rfl
theorem metroBookMakes_j26 : (Rows.metroBookMakesRow.lifted == Tryd.prog.liftsFinal) = true := by kernel_rfl
theorem metroBookMakes_j27 : (Tryd.prog.make == some Rows.metroBookMakesRow.make) = true := by kernel_rfl
theorem metroBookMakes_j29 : (Rows.metroBookMakesRow.pinned == Rows.metroBookMakesRow.pinnedBy) = true := by kernel_rfl
theorem metroBookMakes_j30 : (Rows.metroBookMakesRow.veiled == (Tryd.f16.params.toList ++ Rows.metroBookMakesSpec.plain.varTypes Tryd.prog ++ Tryd.f16.resultTypes.toList).any (Tryd.prog.veiledRec ·)) = true := by kernel_rfl
theorem metroBookMakes_j31 : Rows.metroBookMakesRow.veiledFits Tryd.prog Tryd.f16.params.toList (Tryd.f16.params.toList ++ Rows.metroBookMakesSpec.plain.varTypes Tryd.prog ++ Tryd.f16.resultTypes.toList) = true := by kernel_rfl

set_option maxRecDepth 100000 in
theorem metroBookMakes_facts : joinedFacts Tryd.prog 16 Tryd.f16 Rows.metroBookMakesSpec Rows.metroBookMakesRow = true := by
  unfold joinedFacts
  simp only [Bool.and_eq_true]
  exact ⟨⟨⟨⟨⟨⟨⟨⟨⟨⟨⟨⟨⟨⟨⟨⟨⟨⟨⟨⟨⟨⟨⟨⟨⟨⟨⟨⟨⟨⟨⟨metroBookMakes_j0, metroRatioMakes_j1⟩, metroRatioMakes_j2⟩, metroBookMakes_j3⟩, metroBookMakes_j4⟩, metroBookMakes_j5⟩, metroRatioMakes_j6⟩, metroBookMakes_j7⟩, metroRatioMakes_j8⟩, metroBookMakes_j9⟩, metroBookMakes_j10⟩, metroBookMakes_j11⟩, metroBookMakes_j12⟩, metroBookMakes_j13⟩, metroBookMakes_j14⟩, metroBookMakes_j15⟩, metroBookMakes_j16⟩, metroBookMakes_j17⟩, metroBookMakes_j18⟩, metroBookMakes_j19⟩, metroBookMakes_j20⟩, metroBookMakes_j21⟩, metroBookMakes_j22⟩, metroBookMakes_j23⟩, metroRatioMakes_j24⟩, metroRatioMakes_j25⟩, metroBookMakes_j26⟩, metroBookMakes_j27⟩, (by kernel_rfl)⟩, metroBookMakes_j29⟩, metroBookMakes_j30⟩, metroBookMakes_j31⟩
end Go.Proofs.YtmibpncmebhbjaaDoor
