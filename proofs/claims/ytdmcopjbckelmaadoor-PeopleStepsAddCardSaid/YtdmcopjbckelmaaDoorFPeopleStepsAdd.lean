/- peopleStepsAdd: the closed facts that the row's builder asks. -/
import Derived.Test.YtdmcopjbckelmaaDoorZKF
import Derived.Test.YtdmcopjbckelmaaDoorRows
import Derived.JoinedOf
namespace Go.Proofs.YtdmcopjbckelmaaDoor
open Go

theorem peopleStepsAdd_j0 : Rows.peopleStepsAddRow.wf (OpenSpec.ofChange Rows.peopleStepsAddSpec) = true := by kernel_rfl
theorem peopleStepsAdd_j3 : Tryd.f11.params.all (Tryd.prog.readableRec ·) = true := by kernel_rfl
theorem peopleStepsAdd_j4 : namedTie Tryd.prog Rows.peopleStepsAddRow.named Rows.peopleStepsAddSpec.vars = true := by kernel_rfl
theorem peopleStepsAdd_j5 : (Rows.peopleStepsAddRow.stops == []) = true := by kernel_rfl
theorem peopleStepsAdd_j7 : (Rows.peopleStepsAddRow.knobs == []) = true := by kernel_rfl
theorem peopleStepsAdd_j9 : (Rows.peopleStepsAddRow.inPlace == Tryd.prog.inPlace 11) = true := by kernel_rfl
theorem peopleStepsAdd_j10 : (Rows.peopleStepsAddRow.unfollowed == Tryd.prog.unfollowed 11) = true := by kernel_rfl
theorem peopleStepsAdd_j11 : (Rows.peopleStepsAddRow.recurses == Tryd.prog.recurses 11) = true := by kernel_rfl
theorem peopleStepsAdd_j12 : (Rows.peopleStepsAddRow.named == Tryd.prog.varsNamed 11) = true := by kernel_rfl
theorem peopleStepsAdd_j13 : (Rows.peopleStepsAddRow.maps == (Tryd.f11.params.toList ++ Rows.peopleStepsAddSpec.plain.varTypes Tryd.prog).any (Tryd.prog.mapsRec ·)) = true := by kernel_rfl
theorem peopleStepsAdd_j14 : (Rows.peopleStepsAddRow.ifaces == (Tryd.f11.params.toList ++ Rows.peopleStepsAddSpec.plain.varTypes Tryd.prog).any (Tryd.prog.ifacesRec ·)) = true := by kernel_rfl
theorem peopleStepsAdd_j15 : (Rows.peopleStepsAddRow.mapsOut == Tryd.prog.mapsAmong Tryd.f11.resultTypes.toList) = true := by kernel_rfl
theorem peopleStepsAdd_j16 : (Rows.peopleStepsAddRow.loops == (Tryd.f11.params.toList ++ Rows.peopleStepsAddSpec.plain.varTypes Tryd.prog).any (Tryd.prog.loopsFrom ·)) = true := by kernel_rfl
theorem peopleStepsAdd_j17 : (Rows.peopleStepsAddRow.wideKeys == (Tryd.f11.params.toList ++ Rows.peopleStepsAddSpec.plain.varTypes Tryd.prog ++ Tryd.f11.resultTypes.toList).any (Tryd.prog.wideKeysFrom ·)) = true := by kernel_rfl
theorem peopleStepsAdd_j18 : Rows.peopleStepsAddSpec.vars.all (Tryd.prog.varReadable ·) = true := by kernel_rfl
theorem peopleStepsAdd_j19 : Tryd.f11.resultTypes.all (fun t => Tryd.prog.readableRec t && decide (t < Tryd.prog.types.size)) = true := by kernel_rfl
theorem peopleStepsAdd_j20 : (Rows.peopleStepsAddRow.ifacesOut == Tryd.f11.resultTypes.toList.any (Tryd.prog.ifacesRec ·)) = true := by kernel_rfl
theorem peopleStepsAdd_j21 : (Rows.peopleStepsAddRow.loopsOut == Tryd.f11.resultTypes.toList.any (Tryd.prog.loopsFrom ·)) = true := by kernel_rfl
theorem peopleStepsAdd_j22 : (Rows.peopleStepsAddRow.plainKeys == Tryd.prog.plainKeys) = true := by kernel_rfl
theorem peopleStepsAdd_j23 : Rows.peopleStepsAddRow.shortTexts.isNone = true := by kernel_rfl
theorem peopleStepsAdd_j26 : (Rows.peopleStepsAddRow.lifted == Tryd.prog.liftsFinal) = true := by kernel_rfl
theorem peopleStepsAdd_j27 : (Tryd.prog.make == some Rows.peopleStepsAddRow.make) = true := by kernel_rfl
theorem peopleStepsAdd_j29 : (Rows.peopleStepsAddRow.pinned == Rows.peopleStepsAddRow.pinnedBy) = true := by kernel_rfl
theorem peopleStepsAdd_j30 : (Rows.peopleStepsAddRow.veiled == (Tryd.f11.params.toList ++ Rows.peopleStepsAddSpec.plain.varTypes Tryd.prog ++ Tryd.f11.resultTypes.toList).any (Tryd.prog.veiledRec ·)) = true := by kernel_rfl
theorem peopleStepsAdd_j31 : Rows.peopleStepsAddRow.veiledFits Tryd.prog Tryd.f11.params.toList (Tryd.f11.params.toList ++ Rows.peopleStepsAddSpec.plain.varTypes Tryd.prog ++ Tryd.f11.resultTypes.toList) = true := by kernel_rfl

set_option maxRecDepth 100000 in
theorem peopleStepsAdd_facts : joinedFacts Tryd.prog 11 Tryd.f11 Rows.peopleStepsAddSpec Rows.peopleStepsAddRow = true := by
  unfold joinedFacts
  simp only [Bool.and_eq_true]
  exact ⟨⟨⟨⟨⟨⟨⟨⟨⟨⟨⟨⟨⟨⟨⟨⟨⟨⟨⟨⟨⟨⟨⟨⟨⟨⟨⟨⟨⟨⟨⟨peopleStepsAdd_j0, people_j1⟩, people_j2⟩, peopleStepsAdd_j3⟩, peopleStepsAdd_j4⟩, peopleStepsAdd_j5⟩, people_j6⟩, peopleStepsAdd_j7⟩, people_j8⟩, peopleStepsAdd_j9⟩, peopleStepsAdd_j10⟩, peopleStepsAdd_j11⟩, peopleStepsAdd_j12⟩, peopleStepsAdd_j13⟩, peopleStepsAdd_j14⟩, peopleStepsAdd_j15⟩, peopleStepsAdd_j16⟩, peopleStepsAdd_j17⟩, peopleStepsAdd_j18⟩, peopleStepsAdd_j19⟩, peopleStepsAdd_j20⟩, peopleStepsAdd_j21⟩, peopleStepsAdd_j22⟩, peopleStepsAdd_j23⟩, people_j24⟩, people_j25⟩, peopleStepsAdd_j26⟩, peopleStepsAdd_j27⟩, (by kernel_rfl)⟩, peopleStepsAdd_j29⟩, peopleStepsAdd_j30⟩, peopleStepsAdd_j31⟩
end Go.Proofs.YtdmcopjbckelmaaDoor
