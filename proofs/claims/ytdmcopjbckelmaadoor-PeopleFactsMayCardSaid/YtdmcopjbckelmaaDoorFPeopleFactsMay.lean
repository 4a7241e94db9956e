/- peopleFactsMay: the closed facts that the row's builder asks. -/
import Derived.Test.YtdmcopjbckelmaaDoorZKF
import Derived.Test.YtdmcopjbckelmaaDoorRows
import Derived.JoinedOf
namespace Go.Proofs.YtdmcopjbckelmaaDoor
open Go

theorem peopleFactsMay_j0 : Rows.peopleFactsMayRow.wf (OpenSpec.ofChange Rows.peopleFactsMaySpec) = true := by kernel_rfl
theorem peopleFactsMay_j3 : Tryd.f4.params.all (Tryd.prog.readableRec ·) = true := by kernel_rfl
theorem peopleFactsMay_j4 : namedTie Tryd.prog Rows.peopleFactsMayRow.named Rows.peopleFactsMaySpec.vars = true := by kernel_rfl
theorem peopleFactsMay_j5 : (Rows.peopleFactsMayRow.stops == []) = true := by kernel_rfl
theorem peopleFactsMay_j7 : (Rows.peopleFactsMayRow.knobs == []) = true := by kernel_rfl
theorem peopleFactsMay_j9 : (Rows.peopleFactsMayRow.inPlace == Tryd.prog.inPlace 4) = true := by kernel_rfl
theorem peopleFactsMay_j10 : (Rows.peopleFactsMayRow.unfollowed == Tryd.prog.unfollowed 4) = true := by kernel_rfl
theorem peopleFactsMay_j11 : (Rows.peopleFactsMayRow.recurses == Tryd.prog.recurses 4) = true := by kernel_rfl
theorem peopleFactsMay_j12 : (Rows.peopleFactsMayRow.named == Tryd.prog.varsNamed 4) = true := by kernel_rfl
theorem peopleFactsMay_j13 : (Rows.peopleFactsMayRow.maps == (Tryd.f4.params.toList ++ Rows.peopleFactsMaySpec.plain.varTypes Tryd.prog).any (Tryd.prog.mapsRec ·)) = true := by kernel_rfl
theorem peopleFactsMay_j14 : (Rows.peopleFactsMayRow.ifaces == (Tryd.f4.params.toList ++ Rows.peopleFactsMaySpec.plain.varTypes Tryd.prog).any (Tryd.prog.ifacesRec ·)) = true := by kernel_rfl
theorem peopleFactsMay_j15 : (Rows.peopleFactsMayRow.mapsOut == Tryd.prog.mapsAmong Tryd.f4.resultTypes.toList) = true := by kernel_rfl
theorem peopleFactsMay_j16 : (Rows.peopleFactsMayRow.loops == (Tryd.f4.params.toList ++ Rows.peopleFactsMaySpec.plain.varTypes Tryd.prog).any (Tryd.prog.loopsFrom ·)) = true := by kernel_rfl
theorem peopleFactsMay_j17 : (Rows.peopleFactsMayRow.wideKeys == (Tryd.f4.params.toList ++ Rows.peopleFactsMaySpec.plain.varTypes Tryd.prog ++ Tryd.f4.resultTypes.toList).any (Tryd.prog.wideKeysFrom ·)) = true := by kernel_rfl
theorem peopleFactsMay_j18 : Rows.peopleFactsMaySpec.vars.all (Tryd.prog.varReadable ·) = true := by kernel_rfl
theorem peopleFactsMay_j19 : Tryd.f4.resultTypes.all (fun t => Tryd.prog.readableRec t && decide (t < Tryd.prog.types.size)) = true := by kernel_rfl
theorem peopleFactsMay_j20 : (Rows.peopleFactsMayRow.ifacesOut == Tryd.f4.resultTypes.toList.any (Tryd.prog.ifacesRec ·)) = true := by kernel_rfl
theorem peopleFactsMay_j21 : (Rows.peopleFactsMayRow.loopsOut == Tryd.f4.resultTypes.toList.any (Tryd.prog.loopsFrom ·)) = true := by kernel_rfl
theorem peopleFactsMay_j22 : (Rows.peopleFactsMayRow.plainKeys == Tryd.prog.plainKeys) = true := by kernel_rfl
theorem peopleFactsMay_j23 : Rows.peopleFactsMayRow.shortTexts.isNone = true := by kernel_rfl
theorem peopleFactsMay_j26 : (Rows.peopleFactsMayRow.lifted == Tryd.prog.liftsFinal) = true := by kernel_rfl
theorem peopleFactsMay_j27 : (Tryd.prog.make == some Rows.peopleFactsMayRow.make) = true := by kernel_rfl
theorem peopleFactsMay_j29 : (Rows.peopleFactsMayRow.pinned == Rows.peopleFactsMayRow.pinnedBy) = true := by kernel_rfl
theorem peopleFactsMay_j30 : (Rows.peopleFactsMayRow.veiled == (Tryd.f4.params.toList ++ Rows.peopleFactsMaySpec.plain.varTypes Tryd.prog ++ Tryd.f4.resultTypes.toList).any (Tryd.prog.veiledRec ·)) = true := by kernel_rfl
theorem peopleFactsMay_j31 : Rows.peopleFactsMayRow.veiledFits Tryd.prog Tryd.f4.params.toList (Tryd.f4.params.toList ++ Rows.peopleFactsMaySpec.plain.varTypes Tryd.prog ++ Tryd.f4.resultTypes.toList) = true := by kernel_rfl

set_option maxRecDepth 100000 in
theorem peopleFactsMay_facts : joinedFacts Tryd.prog 4 Tryd.f4 Rows.peopleFactsMaySpec Rows.peopleFactsMayRow = true := by
  unfold joinedFacts
  simp only [Bool.and_eq_true]
  exact ⟨⟨⟨⟨⟨⟨⟨⟨⟨⟨⟨⟨⟨⟨⟨⟨⟨⟨⟨⟨⟨⟨⟨⟨⟨⟨⟨⟨⟨⟨⟨peopleFactsMay_j0, people_j1⟩, people_j2⟩, peopleFactsMay_j3⟩, peopleFactsMay_j4⟩, peopleFactsMay_j5⟩, people_j6⟩, peopleFactsMay_j7⟩, people_j8⟩, peopleFactsMay_j9⟩, peopleFactsMay_j10⟩, peopleFactsMay_j11⟩, peopleFactsMay_j12⟩, peopleFactsMay_j13⟩, peopleFactsMay_j14⟩, peopleFactsMay_j15⟩, peopleFactsMay_j16⟩, peopleFactsMay_j17⟩, peopleFactsMay_j18⟩, peopleFactsMay_j19⟩, peopleFactsMay_j20⟩, peopleFactsMay_j21⟩, peopleFactsMay_j22⟩, peopleFactsMay_j23⟩, people_j24⟩, people_j25⟩, peopleFactsMay_j26⟩, peopleFactsMay_j27⟩, (by kernel_rfl)⟩, peopleFactsMay_j29⟩, peopleFactsMay_j30⟩, peopleFactsMay_j31⟩
end Go.Proofs.YtdmcopjbckelmaaDoor
