/- peopleMergeKeeps: the closed facts that the row's builder asks. -/
import Derived.Test.YtdmcopjbckelmaaDoorZKF
import Derived.Test.YtdmcopjbckelmaaDoorRows
import Derived.JoinedOf
namespace Go.Proofs.YtdmcopjbckelmaaDoor
open Go

theorem peopleMergeKeeps_j0 : Rows.peopleMergeKeepsRow.wf (OpenSpec.ofChange Rows.peopleMergeKeepsSpec) = true := by kernel_rfl
theorem peopleMergeKeeps_j3 : Tryd.f13.params.all (Tryd.prog.readableRec ·) = true := by kernel_rfl
theorem peopleMergeKeeps_j4 : namedTie Tryd.prog Rows.peopleMergeKeepsRow.named Rows.peopleMergeKeepsSpec.vars = true := by kernel_rfl
theorem peopleMergeKeeps_j5 : (Rows.peopleMergeKeepsRow.stops == []) = true := by kernel_rfl
theorem peopleMergeKeeps_j7 : (Rows.peopleMergeKeepsRow.knobs == []) = true := by kernel_rfl
theorem peopleMergeKeeps_j9 : (Rows.peopleMergeKeepsRow.inPlace == Tryd.prog.inPlace 13) = true := by kernel_rfl
theorem peopleMergeKeeps_j10 : (Rows.peopleMergeKeepsRow.unfollowed == Tryd.prog.unfollowed 13) = true := by kernel_rfl
theorem peopleMergeKeeps_j11 : (Rows.peopleMergeKeepsRow.recurses == Tryd.prog.recurses 13) = true := by kernel_rfl
theorem peopleMergeKeeps_j12 : (Rows.peopleMergeKeepsRow.named == Tryd.prog.varsNamed 13) = true := by kernel_rfl
theorem peopleMergeKeeps_j13 : (Rows.peopleMergeKeepsRow.maps == (Tryd.f13.params.toList ++ Rows.peopleMergeKeepsSpec.plain.varTypes Tryd.prog).any (Tryd.prog.mapsRec ·)) = true := by kernel_rfl
theorem peopleMergeKeeps_j14 : (Rows.peopleMergeKeepsRow.ifaces == (Tryd.f13.params.toList ++ Rows.peopleMergeKeepsSpec.plain.varTypes Tryd.prog).any (Tryd.prog.ifacesRec ·)) = true := by kernel_rfl
theorem peopleMergeKeeps_j15 : (Rows.peopleMergeKeepsRow.mapsOut == Tryd.prog.mapsAmong Tryd.f13.resultTypes.toList) = true := by kernel_rfl
theorem peopleMergeKeeps_j16 : (Rows.peopleMergeKeepsRow.loops == (Tryd.f13.params.toList ++ Rows.peopleMergeKeepsSpec.plain.varTypes Tryd.prog).any (Tryd.prog.loopsFrom ·)) = true := by kernel_rfl
theorem peopleMergeKeeps_j17 : (Rows.peopleMergeKeepsRow.wideKeys == (Tryd.f13.params.toList ++ Rows.peopleMergeKeepsSpec.plain.varTypes Tryd.prog ++ Tryd.f13.resultTypes.toList).any (Tryd.prog.wideKeysFrom ·)) = true := by kernel_rfl
theorem peopleMergeKeeps_j18 : Rows.peopleMergeKeepsSpec.vars.all (Tryd.prog.varReadable ·) = true := by kernel_rfl
theorem peopleMergeKeeps_j19 : Tryd.f13.resultTypes.all (fun t => Tryd.prog.readableRec t && decide (t < Tryd.prog.types.size)) = true := by kernel_rfl
theorem peopleMergeKeeps_j20 : (Rows.peopleMergeKeepsRow.ifacesOut == Tryd.f13.resultTypes.toList.any (Tryd.prog.ifacesRec ·)) = true := by kernel_rfl
theorem peopleMergeKeeps_j21 : (Rows.peopleMergeKeepsRow.loopsOut == Tryd.f13.resultTypes.toList.any (Tryd.prog.loopsFrom ·)) = true := by kernel_rfl
theorem peopleMergeKeeps_j22 : (Rows.peopleMergeKeepsRow.plainKeys == Tryd.prog.plainKeys) = true := by kernel_rfl
theorem peopleMergeKeeps_j23 : Rows.peopleMergeKeepsRow.shortTexts.isNone = true := by kernel_rfl
theorem peopleMergeKeeps_j26 : (Rows.peopleMergeKeepsRow.lifted == Tryd.prog.liftsFinal) = true := by kernel_rfl
theorem peopleMergeKeeps_j27 : (Tryd.prog.make == some Rows.peopleMergeKeepsRow.make) = true := by kernel_rfl
theorem peopleMergeKeeps_j29 : (Rows.peopleMergeKeepsRow.pinned == Rows.peopleMergeKeepsRow.pinnedBy) = true := by kernel_rfl
theorem peopleMergeKeeps_j30 : (Rows.peopleMergeKeepsRow.veiled == (Tryd.f13.params.toList ++ Rows.peopleMergeKeepsSpec.plain.varTypes Tryd.prog ++ Tryd.f13.resultTypes.toList).any (Tryd.prog.veiledRec ·)) = true := by kernel_rfl
theorem peopleMergeKeeps_j31 : Rows.peopleMergeKeepsRow.veiledFits Tryd.prog Tryd.f13.params.toList (Tryd.f13.params.toList ++ Rows.peopleMergeKeepsSpec.plain.varTypes Tryd.prog ++ Tryd.f13.resultTypes.toList) = true := by kernel_rfl

set_option maxRecDepth 100000 in
theorem peopleMergeKeeps_facts : joinedFacts Tryd.prog 13 Tryd.f13 Rows.peopleMergeKeepsSpec Rows.peopleMergeKeepsRow = true := by
  unfold joinedFacts
  simp only [Bool.and_eq_true]
  exact ⟨⟨⟨⟨⟨⟨⟨⟨⟨⟨⟨⟨⟨⟨⟨⟨⟨⟨⟨⟨⟨⟨⟨⟨⟨⟨⟨⟨⟨⟨⟨peopleMergeKeeps_j0, people_j1⟩, people_j2⟩, peopleMergeKeeps_j3⟩, peopleMergeKeeps_j4⟩, peopleMergeKeeps_j5⟩, people_j6⟩, peopleMergeKeeps_j7⟩, people_j8⟩, peopleMergeKeeps_j9⟩, peopleMergeKeeps_j10⟩, peopleMergeKeeps_j11⟩, peopleMergeKeeps_j12⟩, peopleMergeKeeps_j13⟩, peopleMergeKeeps_j14⟩, peopleMergeKeeps_j15⟩, peopleMergeKeeps_j16⟩, peopleMergeKeeps_j17⟩, peopleMergeKeeps_j18⟩, peopleMergeKeeps_j19⟩, peopleMergeKeeps_j20⟩, peopleMergeKeeps_j21⟩, peopleMergeKeeps_j22⟩, peopleMergeKeeps_j23⟩, people_j24⟩, people_j25⟩, peopleMergeKeeps_j26⟩, peopleMergeKeeps_j27⟩, (by kernel_rfl)⟩, peopleMergeKeeps_j29⟩, peopleMergeKeeps_j30⟩, peopleMergeKeeps_j31⟩
end Go.Proofs.YtdmcopjbckelmaaDoor
