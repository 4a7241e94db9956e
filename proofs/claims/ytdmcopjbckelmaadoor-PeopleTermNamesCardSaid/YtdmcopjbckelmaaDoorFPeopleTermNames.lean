/- peopleTermNames: the closed facts that the row's builder asks. -/
import Derived.Test.YtdmcopjbckelmaaDoorZKF
import Derived.Test.YtdmcopjbckelmaaDoorRows
import Derived.JoinedOf
namespace Go.Proofs.YtdmcopjbckelmaaDoor
open Go

theorem peopleTermNames_j0 : Rows.peopleTermNamesRow.wf (OpenSpec.ofChange Rows.peopleTermNamesSpec) = true := by kernel_rfl
theorem peopleTermNames_j3 : Tryd.f8.params.all (Tryd.prog.readableRec ·) = true := by kernel_rfl
theorem peopleTermNames_j4 : namedTie Tryd.prog Rows.peopleTermNamesRow.named Rows.peopleTermNamesSpec.vars = true := by kernel_rfl
theorem peopleTermNames_j5 : (Rows.peopleTermNamesRow.stops == []) = true := by kernel_rfl
theorem peopleTermNames_j7 : (Rows.peopleTermNamesRow.knobs == []) = true := by kernel_rfl
theorem peopleTermNames_j9 : (Rows.peopleTermNamesRow.inPlace == Tryd.prog.inPlace 8) = true := by kernel_rfl
theorem peopleTermNames_j10 : (Rows.peopleTermNamesRow.unfollowed == Tryd.prog.unfollowed 8) = true := by kernel_rfl
theorem peopleTermNames_j11 : (Rows.peopleTermNamesRow.recurses == Tryd.prog.recurses 8) = true := by kernel_rfl
theorem peopleTermNames_j12 : (Rows.peopleTermNamesRow.named == Tryd.prog.varsNamed 8) = true := by kernel_rfl
theorem peopleTermNames_j13 : (Rows.peopleTermNamesRow.maps == (Tryd.f8.params.toList ++ Rows.peopleTermNamesSpec.plain.varTypes Tryd.prog).any (Tryd.prog.mapsRec ·)) = true := by kernel_rfl
theorem peopleTermNames_j14 : (Rows.peopleTermNamesRow.ifaces == (Tryd.f8.params.toList ++ Rows.peopleTermNamesSpec.plain.varTypes Tryd.prog).any (Tryd.prog.ifacesRec ·)) = true := by kernel_rfl
theorem peopleTermNames_j15 : (Rows.peopleTermNamesRow.mapsOut == Tryd.prog.mapsAmong Tryd.f8.resultTypes.toList) = true := by kernel_rfl
theorem peopleTermNames_j16 : (Rows.peopleTermNamesRow.loops == (Tryd.f8.params.toList ++ Rows.peopleTermNamesSpec.plain.varTypes Tryd.prog).any (Tryd.prog.loopsFrom ·)) = true := by kernel_rfl
theorem peopleTermNames_j17 : (Rows.peopleTermNamesRow.wideKeys == (Tryd.f8.params.toList ++ Rows.peopleTermNamesSpec.plain.varTypes Tryd.prog ++ Tryd.f8.resultTypes.toList).any (Tryd.prog.wideKeysFrom ·)) = true := by kernel_rfl
theorem peopleTermNames_j18 : Rows.peopleTermNamesSpec.vars.all (Tryd.prog.varReadable ·) = true := by kernel_rfl
theorem peopleTermNames_j19 : Tryd.f8.resultTypes.all (fun t => Tryd.prog.readableRec t && decide (t < Tryd.prog.types.size)) = true := by kernel_rfl
theorem peopleTermNames_j20 : (Rows.peopleTermNamesRow.ifacesOut == Tryd.f8.resultTypes.toList.any (Tryd.prog.ifacesRec ·)) = true := by kernel_rfl
theorem peopleTermNames_j21 : (Rows.peopleTermNamesRow.loopsOut == Tryd.f8.resultTypes.toList.any (Tryd.prog.loopsFrom ·)) = true := by kernel_rfl
theorem peopleTermNames_j22 : (Rows.peopleTermNamesRow.plainKeys == Tryd.prog.plainKeys) = true := by kernel_rfl
theorem peopleTermNames_j23 : Rows.peopleTermNamesRow.shortTexts.isNone = true := by kernel_rfl
theorem peopleTermNames_j26 : (Rows.peopleTermNamesRow.lifted == Tryd.prog.liftsFinal) = true := by kernel_rfl
theorem peopleTermNames_j27 : (Tryd.prog.make == some Rows.peopleTermNamesRow.make) = true := by kernel_rfl
theorem peopleTermNames_j29 : (Rows.peopleTermNamesRow.pinned == Rows.peopleTermNamesRow.pinnedBy) = true := by kernel_rfl
theorem peopleTermNames_j30 : (Rows.peopleTermNamesRow.veiled == (Tryd.f8.params.toList ++ Rows.peopleTermNamesSpec.plain.varTypes Tryd.prog ++ Tryd.f8.resultTypes.toList).any (Tryd.prog.veiledRec ·)) = true := by kernel_rfl
theorem peopleTermNames_j31 : Rows.peopleTermNamesRow.veiledFits Tryd.prog Tryd.f8.params.toList (Tryd.f8.params.toList ++ Rows.peopleTermNamesSpec.plain.varTypes Tryd.prog ++ Tryd.f8.resultTypes.toList) = true := by kernel_rfl

set_option maxRecDepth 100000 in
theorem peopleTermNames_facts : joinedFacts Tryd.prog 8 Tryd.f8 Rows.peopleTermNamesSpec Rows.peopleTermNamesRow = true := by
  unfold joinedFacts
  simp only [Bool.and_eq_true]
  exact ⟨⟨⟨⟨⟨⟨⟨⟨⟨⟨⟨⟨⟨⟨⟨⟨⟨⟨⟨⟨⟨⟨⟨⟨⟨⟨⟨⟨⟨⟨⟨peopleTermNames_j0, people_j1⟩, people_j2⟩, peopleTermNames_j3⟩, peopleTermNames_j4⟩, peopleTermNames_j5⟩, people_j6⟩, peopleTermNames_j7⟩, people_j8⟩, peopleTermNames_j9⟩, peopleTermNames_j10⟩, peopleTermNames_j11⟩, peopleTermNames_j12⟩, peopleTermNames_j13⟩, peopleTermNames_j14⟩, peopleTermNames_j15⟩, peopleTermNames_j16⟩, peopleTermNames_j17⟩, peopleTermNames_j18⟩, peopleTermNames_j19⟩, peopleTermNames_j20⟩, peopleTermNames_j21⟩, peopleTermNames_j22⟩, peopleTermNames_j23⟩, people_j24⟩, people_j25⟩, peopleTermNames_j26⟩, peopleTermNames_j27⟩, (by kernel_rfl)⟩, peopleTermNames_j29⟩, peopleTermNames_j30⟩, peopleTermNames_j31⟩
end Go.Proofs.YtdmcopjbckelmaaDoor
