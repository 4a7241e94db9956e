/- peopleKnown: the closed facts that the row's builder asks. -/
import Derived.Test.YtdmcopjbckelmaaGreatDoorZKF
import Derived.Test.YtdmcopjbckelmaaGreatDoorRows
import Derived.JoinedOf
namespace Go.Proofs.YtdmcopjbckelmaaGreatDoor
open Go

theorem peopleKnown_j0 : Rows.peopleKnownRow.wf (OpenSpec.ofChange Rows.peopleKnownSpec) = true := by kernel_rfl
theorem peopleKnown_j3 : Tryz.f10.params.all (Tryz.prog.readableRec ·) = true := by kernel_rfl
theorem peopleKnown_j4 : namedTie Tryz.prog Rows.peopleKnownRow.named Rows.peopleKnownSpec.vars = true := by kernel_rfl
theorem peopleKnown_j5 : (Rows.peopleKnownRow.stops == []) = true := by kernel_rfl
theorem peopleKnown_j7 : (Rows.peopleKnownRow.knobs == []) = true := by kernel_rfl
theorem peopleKnown_j9 : (Rows.peopleKnownRow.inPlace == Tryz.prog.inPlace 10) = true := by kernel_rfl
theorem peopleKnown_j10 : (Rows.peopleKnownRow.unfollowed == Tryz.prog.unfollowed 10) = true := by kernel_rfl
theorem peopleKnown_j11 : (Rows.peopleKnownRow.recurses == Tryz.prog.recurses 10) = true := by kernel_rfl
theorem peopleKnown_j12 : (Rows.peopleKnownRow.named == Tryz.prog.varsNamed 10) = true := by kernel_rfl
theorem peopleKnown_j13 : (Rows.peopleKnownRow.maps == (Tryz.f10.params.toList ++ Rows.peopleKnownSpec.plain.varTypes Tryz.prog).any (Tryz.prog.mapsRec ·)) = true := by kernel_rfl
theorem peopleKnown_j14 : (Rows.peopleKnownRow.ifaces == (Tryz.f10.params.toList ++ Rows.peopleKnownSpec.plain.varTypes Tryz.prog).any (Tryz.prog.ifacesRec ·)) = true := by kernel_rfl
theorem peopleKnown_j15 : (Rows.peopleKnownRow.mapsOut == Tryz.prog.mapsAmong Tryz.f10.resultTypes.toList) = true := by kernel_rfl
theorem peopleKnown_j16 : (Rows.peopleKnownRow.loops == (Tryz.f10.params.toList ++ Rows.peopleKnownSpec.plain.varTypes Tryz.prog).any (Tryz.prog.loopsFrom ·)) = true := by kernel_rfl
theorem peopleKnown_j17 : (Rows.peopleKnownRow.wideKeys == (Tryz.f10.params.toList ++ Rows.peopleKnownSpec.plain.varTypes Tryz.prog ++ Tryz.f10.resultTypes.toList).any (Tryz.prog.wideKeysFrom ·)) = true := by kernel_rfl
theorem peopleKnown_j18 : Rows.peopleKnownSpec.vars.all (Tryz.prog.varReadable ·) = true := by kernel_rfl
theorem peopleKnown_j19 : Tryz.f10.resultTypes.all (fun t => Tryz.prog.readableRec t && decide (t < Tryz.prog.types.size)) = true := by kernel_rfl
theorem peopleKnown_j20 : (Rows.peopleKnownRow.ifacesOut == Tryz.f10.resultTypes.toList.any (Tryz.prog.ifacesRec ·)) = true := by kernel_rfl
theorem peopleKnown_j21 : (Rows.peopleKnownRow.loopsOut == Tryz.f10.resultTypes.toList.any (Tryz.prog.loopsFrom ·)) = true := by kernel_rfl
theorem peopleKnown_j22 : (Rows.peopleKnownRow.plainKeys == Tryz.prog.plainKeys) = true := by kernel_rfl
theorem peopleKnown_j23 : Rows.peopleKnownRow.shortTexts.isNone = true := by kernel_rfl
theorem peopleKnown_j26 : (Rows.peopleKnownRow.lifted == Tryz.prog.liftsFinal) = true := by kernel_rfl
theorem peopleKnown_j27 : (Tryz.prog.make == some Rows.peopleKnownRow.make) = true := by kernel_rfl
theorem peopleKnown_j29 : (Rows.peopleKnownRow.pinned == Rows.peopleKnownRow.pinnedBy) = true := by kernel_rfl
theorem peopleKnown_j30 : (Rows.peopleKnownRow.veiled == (Tryz.f10.params.toList ++ Rows.peopleKnownSpec.plain.varTypes Tryz.prog ++ Tryz.f10.resultTypes.toList).any (Tryz.prog.veiledRec ·)) = true := by kernel_rfl
theorem peopleKnown_j31 : Rows.peopleKnownRow.veiledFits Tryz.prog Tryz.f10.params.toList (Tryz.f10.params.toList ++ Rows.peopleKnownSpec.plain.varTypes Tryz.prog ++ Tryz.f10.resultTypes.toList) = true := by kernel_rfl

set_option maxRecDepth 100000 in
theorem peopleKnown_facts : joinedFacts Tryz.prog 10 Tryz.f10 Rows.peopleKnownSpec Rows.peopleKnownRow = true := by
  unfold joinedFacts
  simp only [Bool.and_eq_true]
  exact ⟨⟨⟨⟨⟨⟨⟨⟨⟨⟨⟨⟨⟨⟨⟨⟨⟨⟨⟨⟨⟨⟨⟨⟨⟨⟨⟨⟨⟨⟨⟨peopleKnown_j0, people_j1⟩, people_j2⟩, peopleKnown_j3⟩, peopleKnown_j4⟩, peopleKnown_j5⟩, people_j6⟩, peopleKnown_j7⟩, people_j8⟩, peopleKnown_j9⟩, peopleKnown_j10⟩, peopleKnown_j11⟩, peopleKnown_j12⟩, peopleKnown_j13⟩, peopleKnown_j14⟩, peopleKnown_j15⟩, peopleKnown_j16⟩, peopleKnown_j17⟩, peopleKnown_j18⟩, peopleKnown_j19⟩, peopleKnown_j20⟩, peopleKnown_j21⟩, peopleKnown_j22⟩, peopleKnown_j23⟩, people_j24⟩, people_j25⟩, peopleKnown_j26⟩, peopleKnown_j27⟩, (by kernel_rfl)⟩, peopleKnown_j29⟩, peopleKnown_j30⟩, peopleKnown_j31⟩
end Go.Proofs.YtdmcopjbckelmaaGreatDoor
