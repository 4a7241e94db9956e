/- peopleLivesSolve: the closed facts that the row's builder asks. -/
import Derived.Test.YtdmcopjbckelmaaDoorZKF
import Derived.Test.YtdmcopjbckelmaaDoorRows
import Derived.JoinedOf
namespace Go.Proofs.YtdmcopjbckelmaaDoor
open Go

theorem peopleLivesSolve_j0 : Rows.peopleLivesSolveRow.wf (OpenSpec.ofChange Rows.peopleLivesSolveSpec) = true := by kernel_rfl
theorem peopleLivesSolve_j3 : Tryd.f5.params.all (Tryd.prog.readableRec ·) = true := by kernel_rfl
theorem peopleLivesSolve_j4 : namedTie Tryd.prog Rows.peopleLivesSolveRow.named Rows.peopleLivesSolveSpec.vars = true := by kernel_rfl
theorem peopleLivesSolve_j5 : (Rows.peopleLivesSolveRow.stops == []) = true := by kernel_rfl
theorem peopleLivesSolve_j7 : (Rows.peopleLivesSolveRow.knobs == []) = true := by kernel_rfl
theorem peopleLivesSolve_j9 : (Rows.peopleLivesSolveRow.inPlace == Tryd.prog.inPlace 5) = true := by kernel_rfl
theorem peopleLivesSolve_j10 : (Rows.peopleLivesSolveRow.unfollowed == Tryd.prog.unfollowed 5) = true := by kernel_rfl
theorem peopleLivesSolve_j11 : (Rows.peopleLivesSolveRow.recurses == Tryd.prog.recurses 5) = true := by kernel_rfl
theorem peopleLivesSolve_j12 : (Rows.peopleLivesSolveRow.named == Tryd.prog.varsNamed 5) = true := by kernel_rfl
theorem peopleLivesSolve_j13 : (Rows.peopleLivesSolveRow.maps == (Tryd.f5.params.toList ++ Rows.peopleLivesSolveSpec.plain.varTypes Tryd.prog).any (Tryd.prog.mapsRec ·)) = true := by kernel_rfl
theorem peopleLivesSolve_j14 : (Rows.peopleLivesSolveRow.ifaces == (Tryd.f5.params.toList ++ Rows.peopleLivesSolveSpec.plain.varTypes Tryd.prog).any (Tryd.prog.ifacesRec ·)) = true := by kernel_rfl
theorem peopleLivesSolve_j15 : (Rows.peopleLivesSolveRow.mapsOut == Tryd.prog.mapsAmong Tryd.f5.resultTypes.toList) = true := by kernel_rfl
theorem peopleLivesSolve_j16 : (Rows.peopleLivesSolveRow.loops == (Tryd.f5.params.toList ++ Rows.peopleLivesSolveSpec.plain.varTypes Tryd.prog).any (Tryd.prog.loopsFrom ·)) = true := by kernel_rfl
theorem peopleLivesSolve_j17 : (Rows.peopleLivesSolveRow.wideKeys == (Tryd.f5.params.toList ++ Rows.peopleLivesSolveSpec.plain.varTypes Tryd.prog ++ Tryd.f5.resultTypes.toList).any (Tryd.prog.wideKeysFrom ·)) = true := by kernel_rfl
theorem peopleLivesSolve_j18 : Rows.peopleLivesSolveSpec.vars.all (Tryd.prog.varReadable ·) = true := by kernel_rfl
theorem peopleLivesSolve_j19 : Tryd.f5.resultTypes.all (fun t => Tryd.prog.readableRec t && decide (t < Tryd.prog.types.size)) = true := by kernel_rfl
theorem peopleLivesSolve_j20 : (Rows.peopleLivesSolveRow.ifacesOut == Tryd.f5.resultTypes.toList.any (Tryd.prog.ifacesRec ·)) = true := by kernel_rfl
theorem peopleLivesSolve_j21 : (Rows.peopleLivesSolveRow.loopsOut == Tryd.f5.resultTypes.toList.any (Tryd.prog.loopsFrom ·)) = true := by kernel_rfl
theorem peopleLivesSolve_j22 : (Rows.peopleLivesSolveRow.plainKeys == Tryd.prog.plainKeys) = true := by kernel_rfl
theorem peopleLivesSolve_j23 : Rows.peopleLivesSolveRow.shortTexts.isNone = true := by kernel_rfl
theorem peopleLivesSolve_j26 : (Rows.peopleLivesSolveRow.lifted == Tryd.prog.liftsFinal) = true := by kernel_rfl
theorem peopleLivesSolve_j27 : (Tryd.prog.make == some Rows.peopleLivesSolveRow.make) = true := by kernel_rfl
theorem peopleLivesSolve_j29 : (Rows.peopleLivesSolveRow.pinned == Rows.peopleLivesSolveRow.pinnedBy) = true := by kernel_rfl
theorem peopleLivesSolve_j30 : (Rows.peopleLivesSolveRow.veiled == (Tryd.f5.params.toList ++ Rows.peopleLivesSolveSpec.plain.varTypes Tryd.prog ++ Tryd.f5.resultTypes.toList).any (Tryd.prog.veiledRec ·)) = true := by kernel_rfl
theorem peopleLivesSolve_j31 : Rows.peopleLivesSolveRow.veiledFits Tryd.prog Tryd.f5.params.toList (Tryd.f5.params.toList ++ Rows.peopleLivesSolveSpec.plain.varTypes Tryd.prog ++ Tryd.f5.resultTypes.toList) = true := by kernel_rfl

set_option maxRecDepth 100000 in
theorem peopleLivesSolve_facts : joinedFacts Tryd.prog 5 Tryd.f5 Rows.peopleLivesSolveSpec Rows.peopleLivesSolveRow = true := by
  unfold joinedFacts
  simp only [Bool.and_eq_true]
  exact ⟨⟨⟨⟨⟨⟨⟨⟨⟨⟨⟨⟨⟨⟨⟨⟨⟨⟨⟨⟨⟨⟨⟨⟨⟨⟨⟨⟨⟨⟨⟨peopleLivesSolve_j0, people_j1⟩, people_j2⟩, peopleLivesSolve_j3⟩, peopleLivesSolve_j4⟩, peopleLivesSolve_j5⟩, people_j6⟩, peopleLivesSolve_j7⟩, people_j8⟩, peopleLivesSolve_j9⟩, peopleLivesSolve_j10⟩, peopleLivesSolve_j11⟩, peopleLivesSolve_j12⟩, peopleLivesSolve_j13⟩, peopleLivesSolve_j14⟩, peopleLivesSolve_j15⟩, peopleLivesSolve_j16⟩, peopleLivesSolve_j17⟩, peopleLivesSolve_j18⟩, peopleLivesSolve_j19⟩, peopleLivesSolve_j20⟩, peopleLivesSolve_j21⟩, peopleLivesSolve_j22⟩, peopleLivesSolve_j23⟩, people_j24⟩, people_j25⟩, peopleLivesSolve_j26⟩, peopleLivesSolve_j27⟩, (by kernel_rfl)⟩, peopleLivesSolve_j29⟩, peopleLivesSolve_j30⟩, peopleLivesSolve_j31⟩
end Go.Proofs.YtdmcopjbckelmaaDoor
