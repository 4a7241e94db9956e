/- metroLadderBack: the closed facts that the row's builder asks. -/
import Derived.Test.YtmibpncmebhbjaaDoorP12
import Derived.Test.YtmibpncmebhbjaaDoorRows
import Derived.JoinedOf
namespace Go.Proofs.YtmibpncmebhbjaaDoor
open Go

theorem metroLadderBack_j0 : Rows.metroLadderBackRow.wf (OpenSpec.ofChange Rows.metroLadderBackSpec) = true := by kernel_rfl
theorem metroLadderBack_j3 : Tryd.f14.params.all (Tryd.prog.readableRec ·) = true := by kernel_rfl
theorem metroLadderBack_j4 : namedTie Tryd.prog Rows.metroLadderBackRow.named Rows.metroLadderBackSpec.vars = true := by kernel_rfl
theorem metroLadderBack_j5 : (Rows.metroLadderBackRow.stops == []) = true := by kernel_rfl
theorem metroLadderBack_j7 : (Rows.metroLadderBackRow.knobs == []) = true := by kernel_rfl
theorem metroLadderBack_j9 : (Rows.metroLadderBackRow.inPlace == Tryd.prog.inPlace 14) = true := by kernel_rfl
theorem metroLadderBack_j10 : (Rows.metroLadderBackRow.unfollowed == Tryd.prog.unfollowed 14) = true := by kernel_rfl
theorem metroLadderBack_j11 : (Rows.metroLadderBackRow.recurses == Tryd.prog.recurses 14) = true := by kernel_rfl
theorem metroLadderBack_j12 : (Rows.metroLadderBackRow.named == Tryd.prog.varsNamed 14) = true := by kernel_rfl
theorem metroLadderBack_j13 : (Rows.metroLadderBackRow.maps == (Tryd.f14.params.toList ++ Rows.metroLadderBackSpec.plain.varTypes Tryd.prog).any (Tryd.prog.mapsRec ·)) = true := by kernel_rfl
theorem metroLadderBack_j14 : (Rows.metroLadderBackRow.ifaces == (Tryd.f14.params.toList ++ Rows.metroLadderBackSpec.plain.varTypes Tryd.prog).any (Tryd.prog.ifacesRec ·)) = true := by kernel_rfl
theorem metroLadderBack_j15 : (Rows.metroLadderBackRow.mapsOut == Tryd.prog.mapsAmong Tryd.f14.resultTypes.toList) = true := by kernel_rfl
theorem metroLadderBack_j16 : (Rows.metroLadderBackRow.loops == (Tryd.f14.params.toList ++ Rows.metroLadderBackSpec.plain.varTypes Tryd.prog).any (Tryd.prog.loopsFrom ·)) = true := by kernel_rfl
theorem metroLadderBack_j17 : (Rows.metroLadderBackRow.wideKeys == (Tryd.f14.params.toList ++ Rows.metroLadderBackSpec.plain.varTypes Tryd.prog ++ Tryd.f14.resultTypes.toList).any (Tryd.prog.wideKeysFrom ·)) = true := by kernel_rfl
theorem metroLadderBack_j18 : Rows.metroLadderBackSpec.vars.all (Tryd.prog.varReadable ·) = true := by kernel_rfl
theorem metroLadderBack_j19 : Tryd.f14.resultTypes.all (fun t => Tryd.prog.readableRec t && decide (t < Tryd.prog.types.size)) = true := by kernel_rfl
theorem metroLadderBack_j20 : (Rows.metroLadderBackRow.ifacesOut == Tryd.f14.resultTypes.toList.any (Tryd.prog.ifacesRec ·)) = true := by kernel_rfl
theorem metroLadderBack_j21 : (Rows.metroLadderBackRow.loopsOut == Tryd.f14.resultTypes.toList.any (Tryd.prog.loopsFrom ·)) = true := by kernel_rfl
theorem metroLadderBack_j22 : (Rows.metroLadderBackRow.plainKeys == Tryd.prog.plainKeys) = true := by kernel_rfl
theorem metroLadderBack_j23 : Rows.metroLadderBackRow.shortTexts.isNone = true := by kernel_rfl
theorem metroLadderBack_j26 : (Rows.metroLadderBackRow.lifted == Tryd.prog.liftsFinal) = true := by kernel_rfl
theorem metroLadderBack_j27 : (Tryd.prog.make == some Rows.metroLadderBackRow.make) = true := by kernel_rfl
theorem metroLadderBack_j29 : (Rows.metroLadderBackRow.pinned == Rows.metroLadderBackRow.pinnedBy) = true := by kernel_rfl
theorem metroLadderBack_j30 : (Rows.metroLadderBackRow.veiled == (Tryd.f14.params.toList ++ Rows.metroLadderBackSpec.plain.varTypes Tryd.prog ++ Tryd.f14.resultTypes.toList).any (Tryd.prog.veiledRec ·)) = true := by kernel_rfl
theorem metroLadderBack_j31 : Rows.metroLadderBackRow.veiledFits Tryd.prog Tryd.f14.params.toList (Tryd.f14.params.toList ++ Rows.metroLadderBackSpec.plain.varTypes Tryd.prog ++ Tryd.f14.resultTypes.toList) = true := by kernel_rfl

set_option maxRecDepth 100000 in
theorem metroLadderBack_facts : joinedFacts Tryd.prog 14 Tryd.f14 Rows.metroLadderBackSpec Rows.metroLadderBackRow = true := by
  unfold joinedFacts
  simp only [Bool.and_eq_true]
  exact ⟨⟨⟨⟨⟨⟨⟨⟨⟨⟨⟨⟨⟨⟨⟨⟨⟨⟨⟨⟨⟨⟨⟨⟨⟨⟨⟨⟨⟨⟨⟨metroLadderBack_j0, metroRatioMakes_j1⟩, metroRatioMakes_j2⟩, metroLadderBack_j3⟩, metroLadderBack_j4⟩, metroLadderBack_j5⟩, metroRatioMakes_j6⟩, metroLadderBack_j7⟩, metroRatioMakes_j8⟩, metroLadderBack_j9⟩, metroLadderBack_j10⟩, metroLadderBack_j11⟩, metroLadderBack_j12⟩, metroLadderBack_j13⟩, metroLadderBack_j14⟩, metroLadderBack_j15⟩, metroLadderBack_j16⟩, metroLadderBack_j17⟩, metroLadderBack_j18⟩, metroLadderBack_j19⟩, metroLadderBack_j20⟩, metroLadderBack_j21⟩, metroLadderBack_j22⟩, metroLadderBack_j23⟩, metroRatioMakes_j24⟩, metroRatioMakes_j25⟩, metroLadderBack_j26⟩, metroLadderBack_j27⟩, (by kernel_rfl)⟩, metroLadderBack_j29⟩, metroLadderBack_j30⟩, metroLadderBack_j31⟩
end Go.Proofs.YtmibpncmebhbjaaDoor
