/- peopleMerge: the closed facts that the row's builder asks. -/
import Derived.Test.YtdmcopjbckelmaaGreatDoorKF
import Derived.Test.YtdmcopjbckelmaaGreatDoorRows
import Derived.JoinedOf
namespace Go.Proofs.YtdmcopjbckelmaaGreatDoor
open Go

theorem peopleMerge_j0 : Rows.peopleMergeRow.wf (OpenSpec.ofChange Rows.peopleMergeSpec) = true := by kernel_rfl
theorem peopleMerge_j3 : Tryz.f8.params.all (Tryz.prog.readableRec ·) = true := by kernel_rfl
theorem peopleMerge_j4 : namedTie Tryz.prog Rows.peopleMergeRow.named Rows.peopleMergeSpec.vars = true := by kernel_rfl
theorem peopleMerge_j5 : (Rows.peopleMergeRow.stops == []) = true := by kernel_rfl
theorem peopleMerge_j7 : (Rows.peopleMergeRow.knobs == []) = true := by kernel_rfl
theorem peopleMerge_j9 : (Rows.peopleMergeRow.inPlace == Tryz.prog.inPlace 8) = true := by kernel_rfl
theorem peopleMerge_j10 : (Rows.peopleMergeRow.unfollowed == Tryz.prog.unfollowed 8) = true := by kernel_rfl
theorem peopleMerge_j11 : (Rows.peopleMergeRow.recurses == Tryz.prog.recurses 8) = true := by kernel_rfl
theorem peopleMerge_j12 : (Rows.peopleMergeRow.named == Tryz.prog.varsNamed 8) = true := by kernel_rfl
theorem peopleMerge_j13 : (Rows.peopleMergeRow.maps == (Tryz.f8.params.toList ++ Rows.peopleMergeSpec.plain.varTypes Tryz.prog).any (Tryz.prog.mapsRec ·)) = true := by kernel_rfl
theorem peopleMerge_j14 : (Rows.peopleMergeRow.ifaces == (Tryz.f8.params.toList ++ Rows.peopleMergeSpec.plain.varTypes Tryz.prog).any (Tryz.prog.ifacesRec ·)) = true := by kernel_rfl
theorem peopleMerge_j15 : (Rows.peopleMergeRow.mapsOut == Tryz.prog.mapsAmong Tryz.f8.resultTypes.toList) = true := by kernel_rfl
theorem peopleMerge_j16 : (Rows.peopleMergeRow.loops == (Tryz.f8.params.toList ++ Rows.peopleMergeSpec.plain.varTypes Tryz.prog).any (Tryz.prog.loopsFrom ·)) = true := by kernel_rfl
theorem peopleMerge_j17 : (Rows.peopleMergeRow.wideKeys == (Tryz.f8.params.toList ++ Rows.peopleMergeSpec.plain.varTypes Tryz.prog ++ Tryz.f8.resultTypes.toList).any (Tryz.prog.wideKeysFrom ·)) = true := by kernel_rfl
theorem peopleMerge_j18 : Rows.peopleMergeSpec.vars.all (Tryz.prog.varReadable ·) = true := by kernel_rfl
theorem peopleMerge_j19 : Tryz.f8.resultTypes.all (fun t => Tryz.prog.readableRec t && decide (t < Tryz.prog.types.size)) = true := by kernel_rfl
theorem peopleMerge_j20 : (Rows.peopleMergeRow.ifacesOut == Tryz.f8.resultTypes.toList.any (Tryz.prog.ifacesRec ·)) = true := by kernel_rfl
theorem peopleMerge_j21 : (Rows.peopleMergeRow.loopsOut == Tryz.f8.resultTypes.toList.any (Tryz.prog.loopsFrom ·)) = true := by kernel_rfl
theorem peopleMerge_j22 : (Rows.peopleMergeRow.plainKeys == Tryz.prog.plainKeys) = true := by kernel_rfl
theorem peopleMerge_j23 : Rows.peopleMergeRow.shortTexts.isNone = true := by kernel_rfl
theorem peopleMerge_j26 : (Rows.peopleMergeRow.lifted == Tryz.prog.liftsFinal) = true := by kernel_rfl
theorem peopleMerge_j27 : (Tryz.prog.make == some Rows.peopleMergeRow.make) = true := by kernel_rfl
theorem peopleMerge_j29 : (Rows.peopleMergeRow.pinned == Rows.peopleMergeRow.pinnedBy) = true := by kernel_rfl
theorem peopleMerge_j30 : (Rows.peopleMergeRow.veiled == (Tryz.f8.params.toList ++ Rows.peopleMergeSpec.plain.varTypes Tryz.prog ++ Tryz.f8.resultTypes.toList).any (Tryz.prog.veiledRec ·)) = true := by kernel_rfl
theorem peopleMerge_j31 : Rows.peopleMergeRow.veiledFits Tryz.prog Tryz.f8.params.toList (Tryz.f8.params.toList ++ Rows.peopleMergeSpec.plain.varTypes Tryz.prog ++ Tryz.f8.resultTypes.toList) = true := by kernel_rfl

set_option maxRecDepth 100000 in
theorem peopleMerge_facts : joinedFacts Tryz.prog 8 Tryz.f8 Rows.peopleMergeSpec Rows.peopleMergeRow = true := by
  unfold joinedFacts
  simp only [Bool.and_eq_true]
  exact ⟨⟨⟨⟨⟨⟨⟨⟨⟨⟨⟨⟨⟨⟨⟨⟨⟨⟨⟨⟨⟨⟨⟨⟨⟨⟨⟨⟨⟨⟨⟨peopleMerge_j0, people_j1⟩, people_j2⟩, peopleMerge_j3⟩, peopleMerge_j4⟩, peopleMerge_j5⟩, people_j6⟩, peopleMerge_j7⟩, people_j8⟩, peopleMerge_j9⟩, peopleMerge_j10⟩, peopleMerge_j11⟩, peopleMerge_j12⟩, peopleMerge_j13⟩, peopleMerge_j14⟩, peopleMerge_j15⟩, peopleMerge_j16⟩, peopleMerge_j17⟩, peopleMerge_j18⟩, peopleMerge_j19⟩, peopleMerge_j20⟩, peopleMerge_j21⟩, peopleMerge_j22⟩, peopleMerge_j23⟩, people_j24⟩, people_j25⟩, peopleMerge_j26⟩, peopleMerge_j27⟩, (by kernel_rfl)⟩, peopleMerge_j29⟩, peopleMerge_j30⟩, peopleMerge_j31⟩
end Go.Proofs.YtdmcopjbckelmaaGreatDoor
