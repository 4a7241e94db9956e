/- peopleSharesSum: the closed facts that the row's builder asks. -/
import Derived.Test.YtdmcopjbckelmaaDoorZKF
import Derived.Test.YtdmcopjbckelmaaDoorRows
import Derived.JoinedOf
namespace Go.Proofs.YtdmcopjbckelmaaDoor
open Go

theorem peopleSharesSum_j0 : Rows.peopleSharesSumRow.wf (OpenSpec.ofChange Rows.peopleSharesSumSpec) = true := by kernel_rfl
theorem peopleSharesSum_j3 : Tryd.f12.params.all (Tryd.prog.readableRec ·) = true := by kernel_rfl
theorem peopleSharesSum_j4 : namedTie Tryd.prog Rows.peopleSharesSumRow.named Rows.peopleSharesSumSpec.vars = true := by kernel_rfl
theorem peopleSharesSum_j5 : (Rows.peopleSharesSumRow.stops == []) = true := by kernel_rfl
theorem peopleSharesSum_j7 : (Rows.peopleSharesSumRow.knobs == []) = true := by kernel_rfl
theorem peopleSharesSum_j9 : (Rows.peopleSharesSumRow.inPlace == Tryd.prog.inPlace 12) = true := by kernel_rfl
theorem peopleSharesSum_j10 : (Rows.peopleSharesSumRow.unfollowed == Tryd.prog.unfollowed 12) = true := by kernel_rfl
theorem peopleSharesSum_j11 : (Rows.peopleSharesSumRow.recurses == Tryd.prog.recurses 12) = true := by kernel_rfl
theorem peopleSharesSum_j12 : (Rows.peopleSharesSumRow.named == Tryd.prog.varsNamed 12) = true := by kernel_rfl
theorem peopleSharesSum_j13 : (Rows.peopleSharesSumRow.maps == (Tryd.f12.params.toList ++ Rows.peopleSharesSumSpec.plain.varTypes Tryd.prog).any (Tryd.prog.mapsRec ·)) = true := by kernel_rfl
theorem peopleSharesSum_j14 : (Rows.peopleSharesSumRow.ifaces == (Tryd.f12.params.toList ++ Rows.peopleSharesSumSpec.plain.varTypes Tryd.prog).any (Tryd.prog.ifacesRec ·)) = true := by kernel_rfl
theorem peopleSharesSum_j15 : (Rows.peopleSharesSumRow.mapsOut == Tryd.prog.mapsAmong Tryd.f12.resultTypes.toList) = true := by kernel_rfl
theorem peopleSharesSum_j16 : (Rows.peopleSharesSumRow.loops == (Tryd.f12.params.toList ++ Rows.peopleSharesSumSpec.plain.varTypes Tryd.prog).any (Tryd.prog.loopsFrom ·)) = true := by kernel_rfl
theorem peopleSharesSum_j17 : (Rows.peopleSharesSumRow.wideKeys == (Tryd.f12.params.toList ++ Rows.peopleSharesSumSpec.plain.varTypes Tryd.prog ++ Tryd.f12.resultTypes.toList).any (Tryd.prog.wideKeysFrom ·)) = true := by kernel_rfl
theorem peopleSharesSum_j18 : Rows.peopleSharesSumSpec.vars.all (Tryd.prog.varReadable ·) = true := by kernel_rfl
theorem peopleSharesSum_j19 : Tryd.f12.resultTypes.all (fun t => Tryd.prog.readableRec t && decide (t < Tryd.prog.types.size)) = true := by kernel_rfl
theorem peopleSharesSum_j20 : (Rows.peopleSharesSumRow.ifacesOut == Tryd.f12.resultTypes.toList.any (Tryd.prog.ifacesRec ·)) = true := by kernel_rfl
theorem peopleSharesSum_j21 : (Rows.peopleSharesSumRow.loopsOut == Tryd.f12.resultTypes.toList.any (Tryd.prog.loopsFrom ·)) = true := by kernel_rfl
theorem peopleSharesSum_j22 : (Rows.peopleSharesSumRow.plainKeys == Tryd.prog.plainKeys) = true := by kernel_rfl
theorem peopleSharesSum_j23 : Rows.peopleSharesSumRow.shortTexts.isNone = true := by kernel_rfl
theorem peopleSharesSum_j26 : (Rows.peopleSharesSumRow.lifted == Tryd.prog.liftsFinal) = true := by kernel_rfl
theorem peopleSharesSum_j27 : (Tryd.prog.make == some Rows.peopleSharesSumRow.make) = true := by kernel_rfl
theorem peopleSharesSum_j29 : (Rows.peopleSharesSumRow.pinned == Rows.peopleSharesSumRow.pinnedBy) = true := by kernel_rfl
theorem peopleSharesSum_j30 : (Rows.peopleSharesSumRow.veiled == (Tryd.f12.params.toList ++ Rows.peopleSharesSumSpec.plain.varTypes Tryd.prog ++ Tryd.f12.resultTypes.toList).any (Tryd.prog.veiledRec ·)) = true := by kernel_rfl
theorem peopleSharesSum_j31 : Rows.peopleSharesSumRow.veiledFits Tryd.prog Tryd.f12.params.toList (Tryd.f12.params.toList ++ Rows.peopleSharesSumSpec.plain.varTypes Tryd.prog ++ Tryd.f12.resultTypes.toList) = true := by kernel_rfl

set_option maxRecDepth 100000 in
theorem peopleSharesSum_facts : joinedFacts Tryd.prog 12 Tryd.f12 Rows.peopleSharesSumSpec Rows.peopleSharesSumRow = true := by
  unfold joinedFacts
  simp only [Bool.and_eq_true]
  exact ⟨⟨⟨⟨⟨⟨⟨⟨⟨⟨⟨⟨⟨⟨⟨⟨⟨⟨⟨⟨⟨⟨⟨⟨⟨⟨⟨⟨⟨⟨⟨peopleSharesSum_j0, people_j1⟩, people_j2⟩, peopleSharesSum_j3⟩, peopleSharesSum_j4⟩, peopleSharesSum_j5⟩, people_j6⟩, peopleSharesSum_j7⟩, people_j8⟩, peopleSharesSum_j9⟩, peopleSharesSum_j10⟩, peopleSharesSum_j11⟩, peopleSharesSum_j12⟩, peopleSharesSum_j13⟩, peopleSharesSum_j14⟩, peopleSharesSum_j15⟩, peopleSharesSum_j16⟩, peopleSharesSum_j17⟩, peopleSharesSum_j18⟩, peopleSharesSum_j19⟩, peopleSharesSum_j20⟩, peopleSharesSum_j21⟩, peopleSharesSum_j22⟩, peopleSharesSum_j23⟩, people_j24⟩, people_j25⟩, peopleSharesSum_j26⟩, peopleSharesSum_j27⟩, (by kernel_rfl)⟩, peopleSharesSum_j29⟩, peopleSharesSum_j30⟩, peopleSharesSum_j31⟩
end Go.Proofs.YtdmcopjbckelmaaDoor
