/- peopleContrarySmallest: the closed facts that the row's builder asks. -/
import Derived.Test.YtdmcopjbckelmaaDoorZKF
import Derived.Test.YtdmcopjbckelmaaDoorRows
import Derived.JoinedOf
namespace Go.Proofs.YtdmcopjbckelmaaDoor
open Go

theorem peopleContrarySmallest_j0 : Rows.peopleContrarySmallestRow.wf (OpenSpec.ofChange Rows.peopleContrarySmallestSpec) = true := by kernel_rfl
theorem peopleContrarySmallest_j3 : Tryd.f9.params.all (Tryd.prog.readableRec ·) = true := by kernel_rfl
theorem peopleContrarySmallest_j4 : namedTie Tryd.prog Rows.peopleContrarySmallestRow.named Rows.peopleContrarySmallestSpec.vars = true := by kernel_rfl
theorem peopleContrarySmallest_j5 : (Rows.peopleContrarySmallestRow.stops == []) = true := by kernel_rfl
theorem peopleContrarySmallest_j7 : (Rows.peopleContrarySmallestRow.knobs == []) = true := by kernel_rfl
theorem peopleContrarySmallest_j9 : (Rows.peopleContrarySmallestRow.inPlace == Tryd.prog.inPlace 9) = true := by kernel_rfl
theorem peopleContrarySmallest_j10 : (Rows.peopleContrarySmallestRow.unfollowed == Tryd.prog.unfollowed 9) = true := by kernel_rfl
theorem peopleContrarySmallest_j11 : (Rows.peopleContrarySmallestRow.recurses == Tryd.prog.recurses 9) = true := by kernel_rfl
theorem peopleContrarySmallest_j12 : (Rows.peopleContrarySmallestRow.named == Tryd.prog.varsNamed 9) = true := by kernel_rfl
theorem peopleContrarySmallest_j13 : (Rows.peopleContrarySmallestRow.maps == (Tryd.f9.params.toList ++ Rows.peopleContrarySmallestSpec.plain.varTypes Tryd.prog).any (Tryd.prog.mapsRec ·)) = true := by kernel_rfl
theorem peopleContrarySmallest_j14 : (Rows.peopleContrarySmallestRow.ifaces == (Tryd.f9.params.toList ++ Rows.peopleContrarySmallestSpec.plain.varTypes Tryd.prog).any (Tryd.prog.ifacesRec ·)) = true := by kernel_rfl
theorem peopleContrarySmallest_j15 : (Rows.peopleContrarySmallestRow.mapsOut == Tryd.prog.mapsAmong Tryd.f9.resultTypes.toList) = true := by kernel_rfl
theorem peopleContrarySmallest_j16 : (Rows.peopleContrarySmallestRow.loops == (Tryd.f9.params.toList ++ Rows.peopleContrarySmallestSpec.plain.varTypes Tryd.prog).any (Tryd.prog.loopsFrom ·)) = true := by kernel_rfl
theorem peopleContrarySmallest_j17 : (Rows.peopleContrarySmallestRow.wideKeys == (Tryd.f9.params.toList ++ Rows.peopleContrarySmallestSpec.plain.varTypes Tryd.prog ++ Tryd.f9.resultTypes.toList).any (Tryd.prog.wideKeysFrom ·)) = true := by kernel_rfl
theorem peopleContrarySmallest_j18 : Rows.peopleContrarySmallestSpec.vars.all (Tryd.prog.varReadable ·) = true := by kernel_rfl
theorem peopleContrarySmallest_j19 : Tryd.f9.resultTypes.all (fun t => Tryd.prog.readableRec t && decide (t < Tryd.prog.types.size)) = true := by kernel_rfl
theorem peopleContrarySmallest_j20 : (Rows.peopleContrarySmallestRow.ifacesOut == Tryd.f9.resultTypes.toList.any (Tryd.prog.ifacesRec ·)) = true := by kernel_rfl
theorem peopleContrarySmallest_j21 : (Rows.peopleContrarySmallestRow.loopsOut == Tryd.f9.resultTypes.toList.any (Tryd.prog.loopsFrom ·)) = true := by kernel_rfl
theorem peopleContrarySmallest_j22 : (Rows.peopleContrarySmallestRow.plainKeys == Tryd.prog.plainKeys) = true := by kernel_rfl
theorem peopleContrarySmallest_j23 : Rows.peopleContrarySmallestRow.shortTexts.isNone = true := by kernel_rfl
theorem peopleContrarySmallest_j26 : (Rows.peopleContrarySmallestRow.lifted == Tryd.prog.liftsFinal) = true := by kernel_rfl
theorem peopleContrarySmallest_j27 : (Tryd.prog.make == some Rows.peopleContrarySmallestRow.make) = true := by kernel_rfl
theorem peopleContrarySmallest_j29 : (Rows.peopleContrarySmallestRow.pinned == Rows.peopleContrarySmallestRow.pinnedBy) = true := by kernel_rfl
theorem peopleContrarySmallest_j30 : (Rows.peopleContrarySmallestRow.veiled == (Tryd.f9.params.toList ++ Rows.peopleContrarySmallestSpec.plain.varTypes Tryd.prog ++ Tryd.f9.resultTypes.toList).any (Tryd.prog.veiledRec ·)) = true := by kernel_rfl
theorem peopleContrarySmallest_j31 : Rows.peopleContrarySmallestRow.veiledFits Tryd.prog Tryd.f9.params.toList (Tryd.f9.params.toList ++ Rows.peopleContrarySmallestSpec.plain.varTypes Tryd.prog ++ Tryd.f9.resultTypes.toList) = true := by kernel_rfl

set_option maxRecDepth 100000 in
theorem peopleContrarySmallest_facts : joinedFacts Tryd.prog 9 Tryd.f9 Rows.peopleContrarySmallestSpec Rows.peopleContrarySmallestRow = true := by
  unfold joinedFacts
  simp only [Bool.and_eq_true]
  exact ⟨⟨⟨⟨⟨⟨⟨⟨⟨⟨⟨⟨⟨⟨⟨⟨⟨⟨⟨⟨⟨⟨⟨⟨⟨⟨⟨⟨⟨⟨⟨peopleContrarySmallest_j0, people_j1⟩, people_j2⟩, peopleContrarySmallest_j3⟩, peopleContrarySmallest_j4⟩, peopleContrarySmallest_j5⟩, people_j6⟩, peopleContrarySmallest_j7⟩, people_j8⟩, peopleContrarySmallest_j9⟩, peopleContrarySmallest_j10⟩, peopleContrarySmallest_j11⟩, peopleContrarySmallest_j12⟩, peopleContrarySmallest_j13⟩, peopleContrarySmallest_j14⟩, peopleContrarySmallest_j15⟩, peopleContrarySmallest_j16⟩, peopleContrarySmallest_j17⟩, peopleContrarySmallest_j18⟩, peopleContrarySmallest_j19⟩, peopleContrarySmallest_j20⟩, peopleContrarySmallest_j21⟩, peopleContrarySmallest_j22⟩, peopleContrarySmallest_j23⟩, people_j24⟩, people_j25⟩, peopleContrarySmallest_j26⟩, peopleContrarySmallest_j27⟩, (by kernel_rfl)⟩, peopleContrarySmallest_j29⟩, peopleContrarySmallest_j30⟩, peopleContrarySmallest_j31⟩
end Go.Proofs.YtdmcopjbckelmaaDoor
