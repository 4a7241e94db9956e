/- peopleKinFinds: the closed facts that the row's builder asks. -/
import Derived.Test.YtdmcopjbckelmaaGreatDoorZKF
import Derived.Test.YtdmcopjbckelmaaGreatDoorRows
import Derived.JoinedOf
namespace Go.Proofs.YtdmcopjbckelmaaGreatDoor
open Go

theorem peopleKinFinds_j0 : Rows.peopleKinFindsRow.wf (OpenSpec.ofChange Rows.peopleKinFindsSpec) = true := by kernel_rfl
theorem peopleKinFinds_j3 : Tryz.f6.params.all (Tryz.prog.readableRec ·) = true := by kernel_rfl
theorem peopleKinFinds_j4 : namedTie Tryz.prog Rows.peopleKinFindsRow.named Rows.peopleKinFindsSpec.vars = true := by kernel_rfl
theorem peopleKinFinds_j5 : (Rows.peopleKinFindsRow.stops == []) = true := by kernel_rfl
theorem peopleKinFinds_j7 : (Rows.peopleKinFindsRow.knobs == []) = true := by kernel_rfl
theorem peopleKinFinds_j9 : (Rows.peopleKinFindsRow.inPlace == Tryz.prog.inPlace 6) = true := by kernel_rfl
theorem peopleKinFinds_j10 : (Rows.peopleKinFindsRow.unfollowed == Tryz.prog.unfollowed 6) = true := by kernel_rfl
theorem peopleKinFinds_j11 : (Rows.peopleKinFindsRow.recurses == Tryz.prog.recurses 6) = true := by kernel_rfl
theorem peopleKinFinds_j12 : (Rows.peopleKinFindsRow.named == Tryz.prog.varsNamed 6) = true := by kernel_rfl
theorem peopleKinFinds_j13 : (Rows.peopleKinFindsRow.maps == (Tryz.f6.params.toList ++ Rows.peopleKinFindsSpec.plain.varTypes Tryz.prog).any (Tryz.prog.mapsRec ·)) = true := by kernel_rfl
theorem peopleKinFinds_j14 : (Rows.peopleKinFindsRow.ifaces == (Tryz.f6.params.toList ++ Rows.peopleKinFindsSpec.plain.varTypes Tryz.prog).any (Tryz.prog.ifacesRec ·)) = true := by kernel_rfl
theorem peopleKinFinds_j15 : (Rows.peopleKinFindsRow.mapsOut == Tryz.prog.mapsAmong Tryz.f6.resultTypes.toList) = true := by kernel_rfl
theorem peopleKinFinds_j16 : (Rows.peopleKinFindsRow.loops == (Tryz.f6.params.toList ++ Rows.peopleKinFindsSpec.plain.varTypes Tryz.prog).any (Tryz.prog.loopsFrom ·)) = true := by kernel_rfl
theorem peopleKinFinds_j17 : (Rows.peopleKinFindsRow.wideKeys == (Tryz.f6.params.toList ++ Rows.peopleKinFindsSpec.plain.varTypes Tryz.prog ++ Tryz.f6.resultTypes.toList).any (Tryz.prog.wideKeysFrom ·)) = true := by kernel_rfl
theorem peopleKinFinds_j18 : Rows.peopleKinFindsSpec.vars.all (Tryz.prog.varReadable ·) = true := by kernel_rfl
theorem peopleKinFinds_j19 : Tryz.f6.resultTypes.all (fun t => Tryz.prog.readableRec t && decide (t < Tryz.prog.types.size)) = true := by kernel_rfl
theorem peopleKinFinds_j20 : (Rows.peopleKinFindsRow.ifacesOut == Tryz.f6.resultTypes.toList.any (Tryz.prog.ifacesRec ·)) = true := by kernel_rfl
theorem peopleKinFinds_j21 : (Rows.peopleKinFindsRow.loopsOut == Tryz.f6.resultTypes.toList.any (Tryz.prog.loopsFrom ·)) = true := by kernel_rfl
theorem peopleKinFinds_j22 : (Rows.peopleKinFindsRow.plainKeys == Tryz.prog.plainKeys) = true := by kernel_rfl
theorem peopleKinFinds_j23 : Rows.peopleKinFindsRow.shortTexts.isNone = true := by kernel_rfl
theorem peopleKinFinds_j26 : (Rows.peopleKinFindsRow.lifted == Tryz.prog.liftsFinal) = true := by kernel_rfl
theorem peopleKinFinds_j27 : (Tryz.prog.make == some Rows.peopleKinFindsRow.make) = true := by kernel_rfl
theorem peopleKinFinds_j29 : (Rows.peopleKinFindsRow.pinned == Rows.peopleKinFindsRow.pinnedBy) = true := by kernel_rfl
theorem peopleKinFinds_j30 : (Rows.peopleKinFindsRow.veiled == (Tryz.f6.params.toList ++ Rows.peopleKinFindsSpec.plain.varTypes Tryz.prog ++ Tryz.f6.resultTypes.toList).any (Tryz.prog.veiledRec ·)) = true := by kernel_rfl
theorem peopleKinFinds_j31 : Rows.peopleKinFindsRow.veiledFits Tryz.prog Tryz.f6.params.toList (Tryz.f6.params.toList ++ Rows.peopleKinFindsSpec.plain.varTypes Tryz.prog ++ Tryz.f6.resultTypes.toList) = true := by kernel_rfl

set_option maxRecDepth 100000 in
theorem peopleKinFinds_facts : joinedFacts Tryz.prog 6 Tryz.f6 Rows.peopleKinFindsSpec Rows.peopleKinFindsRow = true := by
  unfold joinedFacts
  simp only [Bool.and_eq_true]
  exact ⟨⟨⟨⟨⟨⟨⟨⟨⟨⟨⟨⟨⟨⟨⟨⟨⟨⟨⟨⟨⟨⟨⟨⟨⟨⟨⟨⟨⟨⟨⟨peopleKinFinds_j0, people_j1⟩, people_j2⟩, peopleKinFinds_j3⟩, peopleKinFinds_j4⟩, peopleKinFinds_j5⟩, people_j6⟩, peopleKinFinds_j7⟩, people_j8⟩, peopleKinFinds_j9⟩, peopleKinFinds_j10⟩, peopleKinFinds_j11⟩, peopleKinFinds_j12⟩, peopleKinFinds_j13⟩, peopleKinFinds_j14⟩, peopleKinFinds_j15⟩, peopleKinFinds_j16⟩, peopleKinFinds_j17⟩, peopleKinFinds_j18⟩, peopleKinFinds_j19⟩, peopleKinFinds_j20⟩, peopleKinFinds_j21⟩, peopleKinFinds_j22⟩, peopleKinFinds_j23⟩, people_j24⟩, people_j25⟩, peopleKinFinds_j26⟩, peopleKinFinds_j27⟩, (by kernel_rfl)⟩, peopleKinFinds_j29⟩, peopleKinFinds_j30⟩, peopleKinFinds_j31⟩
end Go.Proofs.YtdmcopjbckelmaaGreatDoor
