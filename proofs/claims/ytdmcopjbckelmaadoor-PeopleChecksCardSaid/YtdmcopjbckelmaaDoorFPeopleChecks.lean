/- peopleChecks: the closed facts that the row's builder asks. -/
import Derived.Test.YtdmcopjbckelmaaDoorZKF
import Derived.Test.YtdmcopjbckelmaaDoorRows
import Derived.JoinedOf
namespace Go.Proofs.YtdmcopjbckelmaaDoor
open Go

theorem peopleChecks_j0 : Rows.peopleChecksRow.wf (OpenSpec.ofChange Rows.peopleChecksSpec) = true := by kernel_rfl
theorem peopleChecks_j3 : Tryd.f3.params.all (Tryd.prog.readableRec ·) = true := by kernel_rfl
theorem peopleChecks_j4 : namedTie Tryd.prog Rows.peopleChecksRow.named Rows.peopleChecksSpec.vars = true := by kernel_rfl
theorem peopleChecks_j5 : (Rows.peopleChecksRow.stops == []) = true := by kernel_rfl
theorem peopleChecks_j7 : (Rows.peopleChecksRow.knobs == []) = true := by kernel_rfl
theorem peopleChecks_j9 : (Rows.peopleChecksRow.inPlace == Tryd.prog.inPlace 3) = true := by kernel_rfl
theorem peopleChecks_j10 : (Rows.peopleChecksRow.unfollowed == Tryd.prog.unfollowed 3) = true := by kernel_rfl
theorem peopleChecks_j11 : (Rows.peopleChecksRow.recurses == Tryd.prog.recurses 3) = true := by kernel_rfl
theorem peopleChecks_j12 : (Rows.peopleChecksRow.named == Tryd.prog.varsNamed 3) = true := by kernel_rfl
theorem peopleChecks_j13 : (Rows.peopleChecksRow.maps == (Tryd.f3.params.toList ++ Rows.peopleChecksSpec.plain.varTypes Tryd.prog).any (Tryd.prog.mapsRec ·)) = true := by kernel_rfl
theorem peopleChecks_j14 : (Rows.peopleChecksRow.ifaces == (Tryd.f3.params.toList ++ Rows.peopleChecksSpec.plain.varTypes Tryd.prog).any (Tryd.prog.ifacesRec ·)) = true := by kernel_rfl
theorem peopleChecks_j15 : (Rows.peopleChecksRow.mapsOut == Tryd.prog.mapsAmong Tryd.f3.resultTypes.toList) = true := by kernel_rfl
theorem peopleChecks_j16 : (Rows.peopleChecksRow.loops == (Tryd.f3.params.toList ++ Rows.peopleChecksSpec.plain.varTypes Tryd.prog).any (Tryd.prog.loopsFrom ·)) = true := by kernel_rfl
theorem peopleChecks_j17 : (Rows.peopleChecksRow.wideKeys == (Tryd.f3.params.toList ++ Rows.peopleChecksSpec.plain.varTypes Tryd.prog ++ Tryd.f3.resultTypes.toList).any (Tryd.prog.wideKeysFrom ·)) = true := by kernel_rfl
theorem peopleChecks_j18 : Rows.peopleChecksSpec.vars.all (Tryd.prog.varReadable ·) = true := by kernel_rfl
theorem peopleChecks_j19 : Tryd.f3.resultTypes.all (fun t => Tryd.prog.readableRec t && decide (t < Tryd.prog.types.size)) = true := by kernel_rfl
theorem peopleChecks_j20 : (Rows.peopleChecksRow.ifacesOut == Tryd.f3.resultTypes.toList.any (Tryd.prog.ifacesRec ·)) = true := by kernel_rfl
theorem peopleChecks_j21 : (Rows.peopleChecksRow.loopsOut == Tryd.f3.resultTypes.toList.any (Tryd.prog.loopsFrom ·)) = true := by kernel_rfl
theorem peopleChecks_j22 : (Rows.peopleChecksRow.plainKeys == Tryd.prog.plainKeys) = true := by kernel_rfl
theorem peopleChecks_j23 : Rows.peopleChecksRow.shortTexts.isNone = true := by kernel_rfl
theorem peopleChecks_j26 : (Rows.peopleChecksRow.lifted == Tryd.prog.liftsFinal) = true := by kernel_rfl
theorem peopleChecks_j27 : (Tryd.prog.make == some Rows.peopleChecksRow.make) = true := by kernel_rfl
theorem peopleChecks_j29 : (Rows.peopleChecksRow.pinned == Rows.peopleChecksRow.pinnedBy) = true := by kernel_rfl
theorem peopleChecks_j30 : (Rows.peopleChecksRow.veiled == (Tryd.f3.params.toList ++ Rows.peopleChecksSpec.plain.varTypes Tryd.prog ++ Tryd.f3.resultTypes.toList).any (Tryd.prog.veiledRec ·)) = true := by kernel_rfl
theorem peopleChecks_j31 : Rows.peopleChecksRow.veiledFits Tryd.prog Tryd.f3.params.toList (Tryd.f3.params.toList ++ Rows.peopleChecksSpec.plain.varTypes Tryd.prog ++ Tryd.f3.resultTypes.toList) = true := by kernel_rfl

set_option maxRecDepth 100000 in
theorem peopleChecks_facts : joinedFacts Tryd.prog 3 Tryd.f3 Rows.peopleChecksSpec Rows.peopleChecksRow = true := by
  unfold joinedFacts
  simp only [Bool.and_eq_true]
  exact ⟨⟨⟨⟨⟨⟨⟨⟨⟨⟨⟨⟨⟨⟨⟨⟨⟨⟨⟨⟨⟨⟨⟨⟨⟨⟨⟨⟨⟨⟨⟨peopleChecks_j0, people_j1⟩, people_j2⟩, peopleChecks_j3⟩, peopleChecks_j4⟩, peopleChecks_j5⟩, people_j6⟩, peopleChecks_j7⟩, people_j8⟩, peopleChecks_j9⟩, peopleChecks_j10⟩, peopleChecks_j11⟩, peopleChecks_j12⟩, peopleChecks_j13⟩, peopleChecks_j14⟩, peopleChecks_j15⟩, peopleChecks_j16⟩, peopleChecks_j17⟩, peopleChecks_j18⟩, peopleChecks_j19⟩, peopleChecks_j20⟩, peopleChecks_j21⟩, peopleChecks_j22⟩, peopleChecks_j23⟩, people_j24⟩, people_j25⟩, peopleChecks_j26⟩, peopleChecks_j27⟩, (by kernel_rfl)⟩, peopleChecks_j29⟩, peopleChecks_j30⟩, peopleChecks_j31⟩
end Go.Proofs.YtdmcopjbckelmaaDoor
