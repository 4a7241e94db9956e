/- metroConvertBack: the closed facts that the row's builder asks. -/
import Derived.Test.YtmibpncmebhbjaaDoorP12
import Derived.Test.YtmibpncmebhbjaaDoorRows
import Derived.JoinedOf
namespace Go.Proofs.YtmibpncmebhbjaaDoor
open Go

theorem metroConvertBack_j0 : Rows.metroConvertBackRow.wf (OpenSpec.ofChange Rows.metroConvertBackSpec) = true := by kernel_rfl
theorem metroConvertBack_j3 : Tryd.f5.params.all (Tryd.prog.readableRec ·) = true := by kernel_rfl
theorem metroConvertBack_j4 : namedTie Tryd.prog Rows.metroConvertBackRow.named Rows.metroConvertBackSpec.vars = true := by kernel_rfl
theorem metroConvertBack_j5 : (Rows.metroConvertBackRow.stops == []) = true := by kernel_rfl
theorem metroConvertBack_j7 : (Rows.metroConvertBackRow.knobs == []) = true := by kernel_rfl
theorem metroConvertBack_j9 : (Rows.metroConvertBackRow.inPlace == Tryd.prog.inPlace 5) = true := by kernel_rfl
theorem metroConvertBack_j10 : (Rows.metroConvertBackRow.unfollowed == Tryd.prog.unfollowed 5) = true := by kernel_rfl
theorem metroConvertBack_j11 : (Rows.metroConvertBackRow.recurses == Tryd.prog.recurses 5) = true := by kernel_rfl
theorem metroConvertBack_j12 : (Rows.metroConvertBackRow.named == Tryd.prog.varsNamed 5) = true := by kernel_rfl
theorem metroConvertBack_j13 : (Rows.metroConvertBackRow.maps == (Tryd.f5.params.toList ++ Rows.metroConvertBackSpec.plain.varTypes Tryd.prog).any (Tryd.prog.mapsRec ·)) = true := by kernel_rfl
theorem metroConvertBack_j14 : (Rows.metroConvertBackRow.ifaces == (Tryd.f5.params.toList ++ Rows.metroConvertBackSpec.plain.varTypes Tryd.prog).any (Tryd.prog.ifacesRec ·)) = true := by kernel_rfl
theorem metroConvertBack_j15 : (Rows.metroConvertBackRow.mapsOut == Tryd.prog.mapsAmong Tryd.f5.resultTypes.toList) = true := by kernel_rfl
theorem metroConvertBack_j16 : (Rows.metroConvertBackRow.loops == (Tryd.f5.params.toList ++ Rows.metroConvertBackSpec.plain.varTypes Tryd.prog).any (Tryd.prog.loopsFrom ·)) = true := by kernel_rfl
theorem metroConvertBack_j17 : (Rows.metroConvertBackRow.wideKeys == (Tryd.f5.params.toList ++ Rows.metroConvertBackSpec.plain.varTypes Tryd.prog ++ Tryd.f5.resultTypes.toList).any (Tryd.prog.wideKeysFrom ·)) = true := by kernel_rfl
theorem metroConvertBack_j18 : Rows.metroConvertBackSpec.vars.all (Tryd.prog.varReadable ·) = true := by kernel_rfl
theorem metroConvertBack_j19 : Tryd.f5.resultTypes.all (fun t => Tryd.prog.readableRec t && decide (t < Tryd.prog.types.size)) = true := by kernel_rfl
theorem metroConvertBack_j20 : (Rows.metroConvertBackRow.ifacesOut == Tryd.f5.resultTypes.toList.any (Tryd.prog.ifacesRec ·)) = true := by kernel_rfl
theorem metroConvertBack_j21 : (Rows.metroConvertBackRow.loopsOut == Tryd.f5.resultTypes.toList.any (Tryd.prog.loopsFrom ·)) = true := by kernel_rfl
theorem metroConvertBack_j22 : (Rows.metroConvertBackRow.plainKeys == Tryd.prog.plainKeys) = true := by kernel_rfl
theorem metroConvertBack_j23 : Rows.metroConvertBackRow.shortTexts.isNone = true := by kernel_rfl
theorem metroConvertBack_j26 : (Rows.metroConvertBackRow.lifted == Tryd.prog.liftsFinal) = true := by kernel_rfl
theorem metroConvertBack_j27 : (Tryd.prog.make == some Rows.metroConvertBackRow.make) = true := by kernel_rfl
theorem metroConvertBack_j29 : (Rows.metroConvertBackRow.pinned == Rows.metroConvertBackRow.pinnedBy) = true := by kernel_rfl
theorem metroConvertBack_j30 : (Rows.metroConvertBackRow.veiled == (Tryd.f5.params.toList ++ Rows.metroConvertBackSpec.plain.varTypes Tryd.prog ++ Tryd.f5.resultTypes.toList).any (Tryd.prog.veiledRec ·)) = true := by kernel_rfl
theorem metroConvertBack_j31 : Rows.metroConvertBackRow.veiledFits Tryd.prog Tryd.f5.params.toList (Tryd.f5.params.toList ++ Rows.metroConvertBackSpec.plain.varTypes Tryd.prog ++ Tryd.f5.resultTypes.toList) = true := by kernel_rfl

set_option maxRecDepth 100000 in
theorem metroConvertBack_facts : joinedFacts Tryd.prog 5 Tryd.f5 Rows.metroConvertBackSpec Rows.metroConvertBackRow = true := by
  unfold joinedFacts
  simp only [Bool.and_eq_true]
  exact ⟨⟨⟨⟨⟨⟨⟨⟨⟨⟨⟨⟨⟨⟨⟨⟨⟨⟨⟨⟨⟨⟨⟨⟨⟨⟨⟨⟨⟨⟨⟨metroConvertBack_j0, metroRatioMakes_j1⟩, metroRatioMakes_j2⟩, metroConvertBack_j3⟩, metroConvertBack_j4⟩, metroConvertBack_j5⟩, metroRatioMakes_j6⟩, metroConvertBack_j7⟩, metroRatioMakes_j8⟩, metroConvertBack_j9⟩, metroConvertBack_j10⟩, metroConvertBack_j11⟩, metroConvertBack_j12⟩, metroConvertBack_j13⟩, metroConvertBack_j14⟩, metroConvertBack_j15⟩, metroConvertBack_j16⟩, metroConvertBack_j17⟩, metroConvertBack_j18⟩, metroConvertBack_j19⟩, metroConvertBack_j20⟩, metroConvertBack_j21⟩, metroConvertBack_j22⟩, metroConvertBack_j23⟩, metroRatioMakes_j24⟩, metroRatioMakes_j25⟩, metroConvertBack_j26⟩, metroConvertBack_j27⟩, (by kernel_rfl)⟩, metroConvertBack_j29⟩, metroConvertBack_j30⟩, metroConvertBack_j31⟩
end Go.Proofs.YtmibpncmebhbjaaDoor
