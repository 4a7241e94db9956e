/- peopleDeedsCheck: the closed facts that the row's builder asks. -/
import Derived.Test.YtdmcopjbckelmaaGreatDoorZKF
import Derived.Test.YtdmcopjbckelmaaGreatDoorRows
import Derived.JoinedOf
namespace Go.Proofs.YtdmcopjbckelmaaGreatDoor
open Go

theorem peopleDeedsCheck_j0 : Rows.peopleDeedsCheckRow.wf (OpenSpec.ofChange Rows.peopleDeedsCheckSpec) = true := by kernel_rfl
theorem peopleDeedsCheck_j3 : Tryz.f9.params.all (Tryz.prog.readableRec ·) = true := by kernel_rfl
theorem peopleDeedsCheck_j4 : namedTie Tryz.prog Rows.peopleDeedsCheckRow.named Rows.peopleDeedsCheckSpec.vars = true := by kernel_rfl
theorem peopleDeedsCheck_j5 : (Rows.peopleDeedsCheckRow.stops == []) = true := by kernel_rfl
theorem peopleDeedsCheck_j7 : (Rows.peopleDeedsCheckRow.knobs == []) = true := by kernel_rfl
theorem peopleDeedsCheck_j9 : (Rows.peopleDeedsCheckRow.inPlace == Tryz.prog.inPlace 9) = true := by kernel_rfl
theorem peopleDeedsCheck_j10 : (Rows.peopleDeedsCheckRow.unfollowed == Tryz.prog.unfollowed 9) = true := by kernel_rfl
theorem peopleDeedsCheck_j11 : (Rows.peopleDeedsCheckRow.recurses == Tryz.prog.recurses 9) = true := by kernel_rfl
theorem peopleDeedsCheck_j12 : (Rows.peopleDeedsCheckRow.named == Tryz.prog.varsNamed 9) = true := by kernel_rfl
theorem peopleDeedsCheck_j13 : (Rows.peopleDeedsCheckRow.maps == (Tryz.f9.params.toList ++ Rows.peopleDeedsCheckSpec.plain.varTypes Tryz.prog).any (Tryz.prog.mapsRec ·)) = true := by kernel_rfl
theorem peopleDeedsCheck_j14 : (Rows.peopleDeedsCheckRow.ifaces == (Tryz.f9.params.toList ++ Rows.peopleDeedsCheckSpec.plain.varTypes Tryz.prog).any (Tryz.prog.ifacesRec ·)) = true := by kernel_rfl
theorem peopleDeedsCheck_j15 : (Rows.peopleDeedsCheckRow.mapsOut == Tryz.prog.mapsAmong Tryz.f9.resultTypes.toList) = true := by kernel_rfl
theorem peopleDeedsCheck_j16 : (Rows.peopleDeedsCheckRow.loops == (Tryz.f9.params.toList ++ Rows.peopleDeedsCheckSpec.plain.varTypes Tryz.prog).any (Tryz.prog.loopsFrom ·)) = true := by kernel_rfl
theorem peopleDeedsCheck_j17 : (Rows.peopleDeedsCheckRow.wideKeys == (Tryz.f9.params.toList ++ Rows.peopleDeedsCheckSpec.plain.varTypes Tryz.prog ++ Tryz.f9.resultTypes.toList).any (Tryz.prog.wideKeysFrom ·)) = true := by kernel_rfl
theorem peopleDeedsCheck_j18 : Rows.peopleDeedsCheckSpec.vars.all (Tryz.prog.varReadable ·) = true := by kernel_rfl
theorem peopleDeedsCheck_j19 : Tryz.f9.resultTypes.all (fun t => Tryz.prog.readableRec t && decide (t < Tryz.prog.types.size)) = true := by kernel_rfl
theorem peopleDeedsCheck_j20 : (Rows.peopleDeedsCheckRow.ifacesOut == Tryz.f9.resultTypes.toList.any (Tryz.prog.ifacesRec ·)) = true := by kernel_rfl
theorem peopleDeedsCheck_j21 : (Rows.peopleDeedsCheckRow.loopsOut == Tryz.f9.resultTypes.toList.any (Tryz.prog.loopsFrom ·)) = true := by kernel_rfl
theorem peopleDeedsCheck_j22 : (Rows.peopleDeedsCheckRow.plainKeys == Tryz.prog.plainKeys) = true := by kernel_rfl
theorem peopleDeedsCheck_j23 : Rows.peopleDeedsCheckRow.shortTexts.isNone = true := by kernel_rfl
theorem peopleDeedsCheck_j26 : (Rows.peopleDeedsCheckRow.lifted == Tryz.prog.liftsFinal) = true := by kernel_rfl
theorem peopleDeedsCheck_j27 : (Tryz.prog.make == some Rows.peopleDeedsCheckRow.make) = true := by kernel_rfl
theorem peopleDeedsCheck_j29 : (Rows.peopleDeedsCheckRow.pinned == Rows.peopleDeedsCheckRow.pinnedBy) = true := by kernel_rfl
theorem peopleDeedsCheck_j30 : (Rows.peopleDeedsCheckRow.veiled == (Tryz.f9.params.toList ++ Rows.peopleDeedsCheckSpec.plain.varTypes Tryz.prog ++ Tryz.f9.resultTypes.toList).any (Tryz.prog.veiledRec ·)) = true := by kernel_rfl
theorem peopleDeedsCheck_j31 : Rows.peopleDeedsCheckRow.veiledFits Tryz.prog Tryz.f9.params.toList (Tryz.f9.params.toList ++ Rows.peopleDeedsCheckSpec.plain.varTypes Tryz.prog ++ Tryz.f9.resultTypes.toList) = true := by kernel_rfl

set_option maxRecDepth 100000 in
theorem peopleDeedsCheck_facts : joinedFacts Tryz.prog 9 Tryz.f9 Rows.peopleDeedsCheckSpec Rows.peopleDeedsCheckRow = true := by
  unfold joinedFacts
  simp only [Bool.and_eq_true]
  exact ⟨⟨⟨⟨⟨⟨⟨⟨⟨⟨⟨⟨⟨⟨⟨⟨⟨⟨⟨⟨⟨⟨⟨⟨⟨⟨⟨⟨⟨⟨⟨peopleDeedsCheck_j0, people_j1⟩, people_j2⟩, peopleDeedsCheck_j3⟩, peopleDeedsCheck_j4⟩, peopleDeedsCheck_j5⟩, people_j6⟩, peopleDeedsCheck_j7⟩, people_j8⟩, peopleDeedsCheck_j9⟩, peopleDeedsCheck_j10⟩, peopleDeedsCheck_j11⟩, peopleDeedsCheck_j12⟩, peopleDeedsCheck_j13⟩, peopleDeedsCheck_j14⟩, peopleDeedsCheck_j15⟩, peopleDeedsCheck_j16⟩, peopleDeedsCheck_j17⟩, peopleDeedsCheck_j18⟩, peopleDeedsCheck_j19⟩, peopleDeedsCheck_j20⟩, peopleDeedsCheck_j21⟩, peopleDeedsCheck_j22⟩, peopleDeedsCheck_j23⟩, people_j24⟩, people_j25⟩, peopleDeedsCheck_j26⟩, peopleDeedsCheck_j27⟩, (by kernel_rfl)⟩, peopleDeedsCheck_j29⟩, peopleDeedsCheck_j30⟩, peopleDeedsCheck_j31⟩
end Go.Proofs.YtdmcopjbckelmaaGreatDoor
