/- peopleChainMeets: the closed facts that the row's builder asks. -/
import Derived.Test.YtdmcopjbckelmaaDoorKF
import Derived.Test.YtdmcopjbckelmaaDoorRows
import Derived.JoinedOf
namespace Go.Proofs.YtdmcopjbckelmaaDoor
open Go

theorem peopleChainMeets_j0 : Rows.peopleChainMeetsRow.wf (OpenSpec.ofChange Rows.peopleChainMeetsSpec) = true := by kernel_rfl
theorem peopleChainMeets_j3 : Tryd.f10.params.all (Tryd.prog.readableRec ·) = true := by kernel_rfl
theorem peopleChainMeets_j4 : namedTie Tryd.prog Rows.peopleChainMeetsRow.named Rows.peopleChainMeetsSpec.vars = true := by kernel_rfl
theorem peopleChainMeets_j5 : (Rows.peopleChainMeetsRow.stops == []) = true := by kernel_rfl
theorem peopleChainMeets_j7 : (Rows.peopleChainMeetsRow.knobs == []) = true := by kernel_rfl
theorem peopleChainMeets_j9 : (Rows.peopleChainMeetsRow.inPlace == Tryd.prog.inPlace 10) = true := by kernel_rfl
theorem peopleChainMeets_j10 : (Rows.peopleChainMeetsRow.unfollowed == Tryd.prog.unfollowed 10) = true := by kernel_rfl
theorem peopleChainMeets_j11 : (Rows.peopleChainMeetsRow.recurses == Tryd.prog.recurses 10) = true := by kernel_rfl
theorem peopleChainMeets_j12 : (Rows.peopleChainMeetsRow.named == Tryd.prog.varsNamed 10) = true := by kernel_rfl
theorem peopleChainMeets_j13 : (Rows.peopleChainMeetsRow.maps == (Tryd.f10.params.toList ++ Rows.peopleChainMeetsSpec.plain.varTypes Tryd.prog).any (Tryd.prog.mapsRec ·)) = true := by kernel_rfl
theorem peopleChainMeets_j14 : (Rows.peopleChainMeetsRow.ifaces == (Tryd.f10.params.toList ++ Rows.peopleChainMeetsSpec.plain.varTypes Tryd.prog).any (Tryd.prog.ifacesRec ·)) = true := by kernel_rfl
theorem peopleChainMeets_j15 : (Rows.peopleChainMeetsRow.mapsOut == Tryd.prog.mapsAmong Tryd.f10.resultTypes.toList) = true := by kernel_rfl
theorem peopleChainMeets_j16 : (Rows.peopleChainMeetsRow.loops == (Tryd.f10.params.toList ++ Rows.peopleChainMeetsSpec.plain.varTypes Tryd.prog).any (Tryd.prog.loopsFrom ·)) = true := by kernel_rfl
theorem peopleChainMeets_j17 : (Rows.peopleChainMeetsRow.wideKeys == (Tryd.f10.params.toList ++ Rows.peopleChainMeetsSpec.plain.varTypes Tryd.prog ++ Tryd.f10.resultTypes.toList).any (Tryd.prog.wideKeysFrom ·)) = true := by kernel_rfl
theorem peopleChainMeets_j18 : Rows.peopleChainMeetsSpec.vars.all (Tryd.prog.varReadable ·) = true := by kernel_rfl
theorem peopleChainMeets_j19 : Tryd.f10.resultTypes.all (fun t => Tryd.prog.readableRec t && decide (t < Tryd.prog.types.size)) = true := by kernel_rfl
theorem peopleChainMeets_j20 : (Rows.peopleChainMeetsRow.ifacesOut == Tryd.f10.resultTypes.toList.any (Tryd.prog.ifacesRec ·)) = true := by kernel_rfl
theorem peopleChainMeets_j21 : (Rows.peopleChainMeetsRow.loopsOut == Tryd.f10.resultTypes.toList.any (Tryd.prog.loopsFrom ·)) = true := by kernel_rfl
theorem peopleChainMeets_j22 : (Rows.peopleChainMeetsRow.plainKeys == Tryd.prog.plainKeys) = true := by kernel_rfl
theorem peopleChainMeets_j23 : Rows.peopleChainMeetsRow.shortTexts.isNone = true := by kernel_rfl
theorem peopleChainMeets_j26 : (Rows.peopleChainMeetsRow.lifted == Tryd.prog.liftsFinal) = true := by kernel_rfl
theorem peopleChainMeets_j27 : (Tryd.prog.make == some Rows.peopleChainMeetsRow.make) = true := by kernel_rfl
theorem peopleChainMeets_j29 : (Rows.peopleChainMeetsRow.pinned == Rows.peopleChainMeetsRow.pinnedBy) = true := by kernel_rfl
theorem peopleChainMeets_j30 : (Rows.peopleChainMeetsRow.veiled == (Tryd.f10.params.toList ++ Rows.peopleChainMeetsSpec.plain.varTypes Tryd.prog ++ Tryd.f10.resultTypes.toList).any (Tryd.prog.veiledRec ·)) = true := by kernel_rfl
theorem peopleChainMeets_j31 : Rows.peopleChainMeetsRow.veiledFits Tryd.prog Tryd.f10.params.toList (Tryd.f10.params.toList ++ Rows.peopleChainMeetsSpec.plain.varTypes Tryd.prog ++ Tryd.f10.resultTypes.toList) = true := by kernel_rfl

set_option maxRecDepth 100000 in
theorem peopleChainMeets_facts : joinedFacts Tryd.prog 10 Tryd.f10 Rows.peopleChainMeetsSpec Rows.peopleChainMeetsRow = true := by
  unfold joinedFacts
  simp only [Bool.and_eq_true]
  exact ⟨⟨⟨⟨⟨⟨⟨⟨⟨⟨⟨⟨⟨⟨⟨⟨⟨⟨⟨⟨⟨⟨⟨⟨⟨⟨⟨⟨⟨⟨⟨peopleChainMeets_j0, people_j1⟩, people_j2⟩, peopleChainMeets_j3⟩, peopleChainMeets_j4⟩, peopleChainMeets_j5⟩, people_j6⟩, peopleChainMeets_j7⟩, people_j8⟩, peopleChainMeets_j9⟩, peopleChainMeets_j10⟩, peopleChainMeets_j11⟩, peopleChainMeets_j12⟩, peopleChainMeets_j13⟩, peopleChainMeets_j14⟩, peopleChainMeets_j15⟩, peopleChainMeets_j16⟩, peopleChainMeets_j17⟩, peopleChainMeets_j18⟩, peopleChainMeets_j19⟩, peopleChainMeets_j20⟩, peopleChainMeets_j21⟩, peopleChainMeets_j22⟩, peopleChainMeets_j23⟩, people_j24⟩, people_j25⟩, peopleChainMeets_j26⟩, peopleChainMeets_j27⟩, (by kernel_rfl)⟩, peopleChainMeets_j29⟩, peopleChainMeets_j30⟩, peopleChainMeets_j31⟩
end Go.Proofs.YtdmcopjbckelmaaDoor
