/- peopleFactsNarrow: the closed facts that the row's builder asks. -/
import Derived.Test.YtdmcopjbckelmaaDoorZKF
import Derived.Test.YtdmcopjbckelmaaDoorRows
import Derived.JoinedOf
namespace Go.Proofs.YtdmcopjbckelmaaDoor
open Go

theorem peopleFactsNarrow_j0 : Rows.peopleFactsNarrowRow.wf (OpenSpec.ofChange Rows.peopleFactsNarrowSpec) = true := by kernel_rfl
theorem peopleFactsNarrow_j3 : Tryd.f6.params.all (Tryd.prog.readableRec ·) = true := by kernel_rfl
theorem peopleFactsNarrow_j4 : namedTie Tryd.prog Rows.peopleFactsNarrowRow.named Rows.peopleFactsNarrowSpec.vars = true := by kernel_rfl
theorem peopleFactsNarrow_j5 : (Rows.peopleFactsNarrowRow.stops == []) = true := by kernel_rfl
theorem peopleFactsNarrow_j7 : (Rows.peopleFactsNarrowRow.knobs == []) = true := by kernel_rfl
theorem peopleFactsNarrow_j9 : (Rows.peopleFactsNarrowRow.inPlace == Tryd.prog.inPlace 6) = true := by kernel_rfl
theorem peopleFactsNarrow_j10 : (Rows.peopleFactsNarrowRow.unfollowed == Tryd.prog.unfollowed 6) = true := by kernel_rfl
theorem peopleFactsNarrow_j11 : (Rows.peopleFactsNarrowRow.recurses == Tryd.prog.recurses 6) = true := by kernel_rfl
theorem peopleFactsNarrow_j12 : (Rows.peopleFactsNarrowRow.named == Tryd.prog.varsNamed 6) = true := by kernel_rfl
theorem peopleFactsNarrow_j13 : (Rows.peopleFactsNarrowRow.maps == (Tryd.f6.params.toList ++ Rows.peopleFactsNarrowSpec.plain.varTypes Tryd.prog).any (Tryd.prog.mapsRec ·)) = true := by kernel_rfl
theorem peopleFactsNarrow_j14 : (Rows.peopleFactsNarrowRow.ifaces == (Tryd.f6.params.toList ++ Rows.peopleFactsNarrowSpec.plain.varTypes Tryd.prog).any (Tryd.prog.ifacesRec ·)) = true := by kernel_rfl
theorem peopleFactsNarrow_j15 : (Rows.peopleFactsNarrowRow.mapsOut == Tryd.prog.mapsAmong Tryd.f6.resultTypes.toList) = true := by kernel_rfl
theorem peopleFactsNarrow_j16 : (Rows.peopleFactsNarrowRow.loops == (Tryd.f6.params.toList ++ Rows.peopleFactsNarrowSpec.plain.varTypes Tryd.prog).any (Tryd.prog.loopsFrom ·)) = true := by kernel_rfl
theorem peopleFactsNarrow_j17 : (Rows.peopleFactsNarrowRow.wideKeys == (Tryd.f6.params.toList ++ Rows.peopleFactsNarrowSpec.plain.varTypes Tryd.prog ++ Tryd.f6.resultTypes.toList).any (Tryd.prog.wideKeysFrom ·)) = true := by kernel_rfl
theorem peopleFactsNarrow_j18 : Rows.peopleFactsNarrowSpec.vars.all (Tryd.prog.varReadable ·) = true := by kernel_rfl
theorem peopleFactsNarrow_j19 : Tryd.f6.resultTypes.all (fun t => Tryd.prog.readableRec t && decide (t < Tryd.prog.types.size)) = true := by kernel_rfl
theorem peopleFactsNarrow_j20 : (Rows.peopleFactsNarrowRow.ifacesOut == Tryd.f6.resultTypes.toList.any (Tryd.prog.ifacesRec ·)) = true := by kernel_rfl
theorem peopleFactsNarrow_j21 : (Rows.peopleFactsNarrowRow.loopsOut == Tryd.f6.resultTypes.toList.any (Tryd.prog.loopsFrom ·)) = true := by kernel_rfl
theorem peopleFactsNarrow_j22 : (Rows.peopleFactsNarrowRow.plainKeys == Tryd.prog.plainKeys) = true := by kernel_rfl
theorem peopleFactsNarrow_j23 : Rows.peopleFactsNarrowRow.shortTexts.isNone = true := by kernel_rfl
theorem peopleFactsNarrow_j26 : (Rows.peopleFactsNarrowRow.lifted == Tryd.prog.liftsFinal) = true := by kernel_rfl
theorem peopleFactsNarrow_j27 : (Tryd.prog.make == some Rows.peopleFactsNarrowRow.make) = true := by kernel_rfl
theorem peopleFactsNarrow_j29 : (Rows.peopleFactsNarrowRow.pinned == Rows.peopleFactsNarrowRow.pinnedBy) = true := by kernel_rfl
theorem peopleFactsNarrow_j30 : (Rows.peopleFactsNarrowRow.veiled == (Tryd.f6.params.toList ++ Rows.peopleFactsNarrowSpec.plain.varTypes Tryd.prog ++ Tryd.f6.resultTypes.toList).any (Tryd.prog.veiledRec ·)) = true := by kernel_rfl
theorem peopleFactsNarrow_j31 : Rows.peopleFactsNarrowRow.veiledFits Tryd.prog Tryd.f6.params.toList (Tryd.f6.params.toList ++ Rows.peopleFactsNarrowSpec.plain.varTypes Tryd.prog ++ Tryd.f6.resultTypes.toList) = true := by kernel_rfl

set_option maxRecDepth 100000 in
theorem peopleFactsNarrow_facts : joinedFacts Tryd.prog 6 Tryd.f6 Rows.peopleFactsNarrowSpec Rows.peopleFactsNarrowRow = true := by
  unfold joinedFacts
  simp only [Bool.and_eq_true]
  exact ⟨⟨⟨⟨⟨⟨⟨⟨⟨⟨⟨⟨⟨⟨⟨⟨⟨⟨⟨⟨⟨⟨⟨⟨⟨⟨⟨⟨⟨⟨⟨peopleFactsNarrow_j0, people_j1⟩, people_j2⟩, peopleFactsNarrow_j3⟩, peopleFactsNarrow_j4⟩, peopleFactsNarrow_j5⟩, people_j6⟩, peopleFactsNarrow_j7⟩, people_j8⟩, peopleFactsNarrow_j9⟩, peopleFactsNarrow_j10⟩, peopleFactsNarrow_j11⟩, peopleFactsNarrow_j12⟩, peopleFactsNarrow_j13⟩, peopleFactsNarrow_j14⟩, peopleFactsNarrow_j15⟩, peopleFactsNarrow_j16⟩, peopleFactsNarrow_j17⟩, peopleFactsNarrow_j18⟩, peopleFactsNarrow_j19⟩, peopleFactsNarrow_j20⟩, peopleFactsNarrow_j21⟩, peopleFactsNarrow_j22⟩, peopleFactsNarrow_j23⟩, people_j24⟩, people_j25⟩, peopleFactsNarrow_j26⟩, peopleFactsNarrow_j27⟩, (by kernel_rfl)⟩, peopleFactsNarrow_j29⟩, peopleFactsNarrow_j30⟩, peopleFactsNarrow_j31⟩
end Go.Proofs.YtdmcopjbckelmaaDoor
