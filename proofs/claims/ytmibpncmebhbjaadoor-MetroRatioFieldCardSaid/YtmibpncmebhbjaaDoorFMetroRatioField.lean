/- metroRatioField: the closed facts that the row's builder asks. -/
import Derived.Test.YtmibpncmebhbjaaDoorP12
import Derived.Test.YtmibpncmebhbjaaDoorRows
import Derived.JoinedOf
namespace Go.Proofs.YtmibpncmebhbjaaDoor
open Go

theorem metroRatioField_j0 : Rows.metroRatioFieldRow.wf (OpenSpec.ofChange Rows.metroRatioFieldSpec) = true := by kernel_rfl
theorem metroRatioField_j3 : Tryd.f15.params.all (Tryd.prog.readableRec ·) = true := by kernel_rfl
theorem metroRatioField_j4 : namedTie Tryd.prog Rows.metroRatioFieldRow.named Rows.metroRatioFieldSpec.vars = true := by kernel_rfl
theorem metroRatioField_j5 : (Rows.metroRatioFieldRow.stops == []) = true := by kernel_rfl
theorem metroRatioField_j7 : (Rows.metroRatioFieldRow.knobs == []) = true := by kernel_rfl
theorem metroRatioField_j9 : (Rows.metroRatioFieldRow.inPlace == Tryd.prog.inPlace 15) = true := by kernel_rfl
theorem metroRatioField_j10 : (Rows.metroRatioFieldRow.unfollowed == Tryd.prog.unfollowed 15) = true := by kernel_rfl
theorem metroRatioField_j11 : (Rows.metroRatioFieldRow.recurses == Tryd.prog.recurses 15) = true := by kernel_rfl
theorem metroRatioField_j12 : (Rows.metroRatioFieldRow.named == Tryd.prog.varsNamed 15) = true := by kernel_rfl
theorem metroRatioField_j13 : (Rows.metroRatioFieldRow.maps == (Tryd.f15.params.toList ++ Rows.metroRatioFieldSpec.plain.varTypes Tryd.prog).any (Tryd.prog.mapsRec ·)) = true := by kernel_rfl
theorem metroRatioField_j14 : (Rows.metroRatioFieldRow.ifaces == (Tryd.f15.params.toList ++ Rows.metroRatioFieldSpec.plain.varTypes Tryd.prog).any (Tryd.prog.ifacesRec ·)) = true := by kernel_rfl
theorem metroRatioField_j15 : (Rows.metroRatioFieldRow.mapsOut == Tryd.prog.mapsAmong Tryd.f15.resultTypes.toList) = true := by kernel_rfl
theorem metroRatioField_j16 : (Rows.metroRatioFieldRow.loops == (Tryd.f15.params.toList ++ Rows.metroRatioFieldSpec.plain.varTypes Tryd.prog).any (Tryd.prog.loopsFrom ·)) = true := by kernel_rfl
theorem metroRatioField_j17 : (Rows.metroRatioFieldRow.wideKeys == (Tryd.f15.params.toList ++ Rows.metroRatioFieldSpec.plain.varTypes Tryd.prog ++ Tryd.f15.resultTypes.toList).any (Tryd.prog.wideKeysFrom ·)) = true := by kernel_rfl
theorem metroRatioField_j18 : Rows.metroRatioFieldSpec.vars.all (Tryd.prog.varReadable ·) = true := by kernel_rfl
theorem metroRatioField_j19 : Tryd.f15.resultTypes.all (fun t => Tryd.prog.readableRec t && decide (t < Tryd.prog.types.size)) = true := by kernel_rfl
theorem metroRatioField_j20 : (Rows.metroRatioFieldRow.ifacesOut == Tryd.f15.resultTypes.toList.any (Tryd.prog.ifacesRec ·)) = true := by kernel_rfl
theorem metroRatioField_j21 : (Rows.metroRatioFieldRow.loopsOut == Tryd.f15.resultTypes.toList.any (Tryd.prog.loopsFrom ·)) = true := by kernel_rfl
theorem metroRatioField_j22 : (Rows.metroRatioFieldRow.plainKeys == Tryd.prog.plainKeys) = true := by kernel_rfl
theorem metroRatioField_j23 : Rows.metroRatioFieldRow.shortTexts.isNone = true := by kernel_rfl
theorem metroRatioField_j26 : (Rows.metroRatioFieldRow.lifted == Tryd.prog.liftsFinal) = true := by kernel_rfl
theorem metroRatioField_j27 : (Tryd.prog.make == some Rows.metroRatioFieldRow.make) = true := by kernel_rfl
theorem metroRatioField_j29 : (Rows.metroRatioFieldRow.pinned == Rows.metroRatioFieldRow.pinnedBy) = true := by kernel_rfl
theorem metroRatioField_j30 : (Rows.metroRatioFieldRow.veiled == (Tryd.f15.params.toList ++ Rows.metroRatioFieldSpec.plain.varTypes Tryd.prog ++ Tryd.f15.resultTypes.toList).any (Tryd.prog.veiledRec ·)) = true := by kernel_rfl
theorem metroRatioField_j31 : Rows.metroRatioFieldRow.veiledFits Tryd.prog Tryd.f15.params.toList (Tryd.f15.params.toList ++ Rows.metroRatioFieldSpec.plain.varTypes Tryd.prog ++ Tryd.f15.resultTypes.toList) = true := by kernel_rfl

set_option maxRecDepth 100000 in
theorem metroRatioField_facts : joinedFacts Tryd.prog 15 Tryd.f15 Rows.metroRatioFieldSpec Rows.metroRatioFieldRow = true := by
  unfold joinedFacts
  simp only [Bool.and_eq_true]
  exact ⟨⟨⟨⟨⟨⟨⟨⟨⟨⟨⟨⟨⟨⟨⟨⟨⟨⟨⟨⟨⟨⟨⟨⟨⟨⟨⟨⟨⟨⟨⟨metroRatioField_j0, metroRatioMakes_j1⟩, metroRatioMakes_j2⟩, metroRatioField_j3⟩, metroRatioField_j4⟩, metroRatioField_j5⟩, metroRatioMakes_j6⟩, metroRatioField_j7⟩, metroRatioMakes_j8⟩, metroRatioField_j9⟩, metroRatioField_j10⟩, metroRatioField_j11⟩, metroRatioField_j12⟩, metroRatioField_j13⟩, metroRatioField_j14⟩, metroRatioField_j15⟩, metroRatioField_j16⟩, metroRatioField_j17⟩, metroRatioField_j18⟩, metroRatioField_j19⟩, metroRatioField_j20⟩, metroRatioField_j21⟩, metroRatioField_j22⟩, metroRatioField_j23⟩, metroRatioMakes_j24⟩, metroRatioMakes_j25⟩, metroRatioField_j26⟩, metroRatioField_j27⟩, (by kernel_rfl)⟩, metroRatioField_j29⟩, metroRatioField_j30⟩, metroRatioField_j31⟩
end Go.Proofs.YtmibpncmebhbjaaDoor
