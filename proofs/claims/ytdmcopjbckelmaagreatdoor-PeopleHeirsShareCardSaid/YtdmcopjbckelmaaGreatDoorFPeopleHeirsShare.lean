/- peopleHeirsShare: the closed facts that the row's builder asks. -/
import Derived.Test.YtdmcopjbckelmaaGreatDoorZKF
import Derived.Test.YtdmcopjbckelmaaGreatDoorRows
import Derived.JoinedOf
namespace Go.Proofs.YtdmcopjbckelmaaGreatDoor
open Go

theorem peopleHeirsShare_j0 : Rows.peopleHeirsShareRow.wf (OpenSpec.ofChange Rows.peopleHeirsShareSpec) = true := by kernel_rfl
theorem peopleHeirsShare_j3 : Tryz.f3.params.all (Tryz.prog.readableRec ·) = true := by kernel_rfl
theorem peopleHeirsShare_j4 : namedTie Tryz.prog Rows.peopleHeirsShareRow.named Rows.peopleHeirsShareSpec.vars = true := by kernel_rfl
theorem peopleHeirsShare_j5 : (Rows.peopleHeirsShareRow.stops == []) = true := by kernel_rfl
theorem peopleHeirsShare_j7 : (Rows.peopleHeirsShareRow.knobs == []) = true := by kernel_rfl
theorem peopleHeirsShare_j9 : (Rows.peopleHeirsShareRow.inPlace == Tryz.prog.inPlace 3) = true := by kernel_rfl
theorem peopleHeirsShare_j10 : (Rows.peopleHeirsShareRow.unfollowed == Tryz.prog.unfollowed 3) = true := by kernel_rfl
theorem peopleHeirsShare_j11 : (Rows.peopleHeirsShareRow.recurses == Tryz.prog.recurses 3) = true := by kernel_rfl
theorem peopleHeirsShare_j12 : (Rows.peopleHeirsShareRow.named == Tryz.prog.varsNamed 3) = true := by kernel_rfl
theorem peopleHeirsShare_j13 : (Rows.peopleHeirsShareRow.maps == (Tryz.f3.params.toList ++ Rows.peopleHeirsShareSpec.plain.varTypes Tryz.prog).any (Tryz.prog.mapsRec ·)) = true := by kernel_rfl
theorem peopleHeirsShare_j14 : (Rows.peopleHeirsShareRow.ifaces == (Tryz.f3.params.toList ++ Rows.peopleHeirsShareSpec.plain.varTypes Tryz.prog).any (Tryz.prog.ifacesRec ·)) = true := by kernel_rfl
theorem peopleHeirsShare_j15 : (Rows.peopleHeirsShareRow.mapsOut == Tryz.prog.mapsAmong Tryz.f3.resultTypes.toList) = true := by kernel_rfl
theorem peopleHeirsShare_j16 : (Rows.peopleHeirsShareRow.loops == (Tryz.f3.params.toList ++ Rows.peopleHeirsShareSpec.plain.varTypes Tryz.prog).any (Tryz.prog.loopsFrom ·)) = true := by kernel_rfl
theorem peopleHeirsShare_j17 : (Rows.peopleHeirsShareRow.wideKeys == (Tryz.f3.params.toList ++ Rows.peopleHeirsShareSpec.plain.varTypes Tryz.prog ++ Tryz.f3.resultTypes.toList).any (Tryz.prog.wideKeysFrom ·)) = true := by kernel_rfl
theorem peopleHeirsShare_j18 : Rows.peopleHeirsShareSpec.vars.all (Tryz.prog.varReadable ·) = true := by kernel_rfl
theorem peopleHeirsShare_j19 : Tryz.f3.resultTypes.all (fun t => Tryz.prog.readableRec t && decide (t < Tryz.prog.types.size)) = true := by kernel_rfl
theorem peopleHeirsShare_j20 : (Rows.peopleHeirsShareRow.ifacesOut == Tryz.f3.resultTypes.toList.any (Tryz.prog.ifacesRec ·)) = true := by kernel_rfl
theorem peopleHeirsShare_j21 : (Rows.peopleHeirsShareRow.loopsOut == Tryz.f3.resultTypes.toList.any (Tryz.prog.loopsFrom ·)) = true := by kernel_rfl
theorem peopleHeirsShare_j22 : (Rows.peopleHeirsShareRow.plainKeys == Tryz.prog.plainKeys) = true := by kernel_rfl
theorem peopleHeirsShare_j23 : Rows.peopleHeirsShareRow.shortTexts.isNone = true := by kernel_rfl
theorem peopleHeirsShare_j26 : (Rows.peopleHeirsShareRow.lifted == Tryz.prog.liftsFinal) = true := by kernel_rfl
theorem peopleHeirsShare_j27 : (Tryz.prog.make == some Rows.peopleHeirsShareRow.make) = true := by kernel_rfl
theorem peopleHeirsShare_j29 : (Rows.peopleHeirsShareRow.pinned == Rows.peopleHeirsShareRow.pinnedBy) = true := by kernel_rfl
theorem peopleHeirsShare_j30 : (Rows.peopleHeirsShareRow.veiled == (Tryz.f3.params.toList ++ Rows.peopleHeirsShareSpec.plain.varTypes Tryz.prog ++ Tryz.f3.resultTypes.toList).any (Tryz.prog.veiledRec ·)) = true := by kernel_rfl
theorem peopleHeirsShare_j31 : Rows.peopleHeirsShareRow.veiledFits Tryz.prog Tryz.f3.params.toList (Tryz.f3.params.toList ++ Rows.peopleHeirsShareSpec.plain.varTypes Tryz.prog ++ Tryz.f3.resultTypes.toList) = true := by kernel_rfl

set_option maxRecDepth 100000 in
theorem peopleHeirsShare_facts : joinedFacts Tryz.prog 3 Tryz.f3 Rows.peopleHeirsShareSpec Rows.peopleHeirsShareRow = true := by
  unfold joinedFacts
  simp only [Bool.and_eq_true]
  exact ⟨⟨⟨⟨⟨⟨⟨⟨⟨⟨⟨⟨⟨⟨⟨⟨⟨⟨⟨⟨⟨⟨⟨⟨⟨⟨⟨⟨⟨⟨⟨peopleHeirsShare_j0, people_j1⟩, people_j2⟩, peopleHeirsShare_j3⟩, peopleHeirsShare_j4⟩, peopleHeirsShare_j5⟩, people_j6⟩, peopleHeirsShare_j7⟩, people_j8⟩, peopleHeirsShare_j9⟩, peopleHeirsShare_j10⟩, peopleHeirsShare_j11⟩, peopleHeirsShare_j12⟩, peopleHeirsShare_j13⟩, peopleHeirsShare_j14⟩, peopleHeirsShare_j15⟩, peopleHeirsShare_j16⟩, peopleHeirsShare_j17⟩, peopleHeirsShare_j18⟩, peopleHeirsShare_j19⟩, peopleHeirsShare_j20⟩, peopleHeirsShare_j21⟩, peopleHeirsShare_j22⟩, peopleHeirsShare_j23⟩, people_j24⟩, people_j25⟩, peopleHeirsShare_j26⟩, peopleHeirsShare_j27⟩, (by kernel_rfl)⟩, peopleHeirsShare_j29⟩, peopleHeirsShare_j30⟩, peopleHeirsShare_j31⟩
end Go.Proofs.YtdmcopjbckelmaaGreatDoor
