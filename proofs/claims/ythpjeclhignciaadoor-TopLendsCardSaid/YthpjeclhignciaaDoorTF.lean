/- topLends: the closed facts that the row's builder asks. -/
import Derived.Test.YthpjeclhignciaaDoorRows
import Derived.JoinedOf
namespace Go.Proofs.YthpjeclhignciaaDoor
open Go

theorem topLends_j0 : Rows.topLendsRow.wf (OpenSpec.ofChange Rows.topLendsSpec) = true := by kernel_rfl
theorem topLends_j1 : laidOutB Tryd.prog = true := by kernel_rfl
theorem topLends_j2 : mapsRowed Tryd.prog = true := by kernel_rfl
theorem topLends_j3 : Tryd.f3.params.all (Tryd.prog.readableRec ·) = true := by kernel_rfl
theorem topLends_j4 : namedTie Tryd.prog Rows.topLendsRow.named Rows.topLendsSpec.vars = true := by kernel_rfl
theorem topLends_j5 : (Rows.topLendsRow.stops == []) = true := by kernel_rfl
theorem topLends_j6 : (Tryd.prog.stops == []) = true := by kernel_rfl
theorem topLends_j7 : (Rows.topLendsRow.knobs == []) = true := by kernel_rfl
theorem topLends_j8 : (Tryd.prog.stopKnobs == []) = true := by kernel_rfl
theorem topLends_j9 : (Rows.topLendsRow.inPlace == Tryd.prog.inPlace 3) = true := by kernel_rfl
theorem topLends_j10 : (Rows.topLendsRow.unfollowed == Tryd.prog.unfollowed 3) = true := by kernel_rfl
theorem topLends_j11 : (Rows.topLendsRow.recurses == Tryd.prog.recurses 3) = true := by kernel_rfl
theorem topLends_j12 : (Rows.topLendsRow.named == Tryd.prog.varsNamed 3) = true := by kernel_rfl
theorem topLends_j13 : (Rows.topLendsRow.maps == (Tryd.f3.params.toList ++ Rows.topLendsSpec.plain.varTypes Tryd.prog).any (Tryd.prog.mapsRec ·)) = true := by kernel_rfl
theorem topLends_j14 : (Rows.topLendsRow.ifaces == (Tryd.f3.params.toList ++ Rows.topLendsSpec.plain.varTypes Tryd.prog).any (Tryd.prog.ifacesRec ·)) = true := by kernel_rfl
theorem topLends_j15 : (Rows.topLendsRow.mapsOut == Tryd.prog.mapsAmong Tryd.f3.resultTypes.toList) = true := by kernel_rfl
theorem topLends_j16 : (Rows.topLendsRow.loops == (Tryd.f3.params.toList ++ Rows.topLendsSpec.plain.varTypes Tryd.prog).any (Tryd.prog.loopsFrom ·)) = true := by kernel_rfl
theorem topLends_j17 : (Rows.topLendsRow.wideKeys == (Tryd.f3.params.toList ++ Rows.topLendsSpec.plain.varTypes Tryd.prog ++ Tryd.f3.resultTypes.toList).any (Tryd.prog.wideKeysFrom ·)) = true := by kernel_rfl
theorem topLends_j18 : Rows.topLendsSpec.vars.all (Tryd.prog.varReadable ·) = true := by kernel_rfl
theorem topLends_j19 : Tryd.f3.resultTypes.all (fun t => Tryd.prog.readableRec t && decide (t < Tryd.prog.types.size)) = true := by kernel_rfl
theorem topLends_j20 : (Rows.topLendsRow.ifacesOut == Tryd.f3.resultTypes.toList.any (Tryd.prog.ifacesRec ·)) = true := by kernel_rfl
theorem topLends_j21 : (Rows.topLendsRow.loopsOut == Tryd.f3.resultTypes.toList.any (Tryd.prog.loopsFrom ·)) = true := by kernel_rfl
theorem topLends_j22 : (Rows.topLendsRow.plainKeys == Tryd.prog.plainKeys) = true := by kernel_rfl
theorem topLends_j23 : Rows.topLendsRow.shortTexts.isNone = true := by kernel_rfl
theorem topLends_j24 : Tryd.prog.stopsHeard = true := by kernel_rfl
theorem topLends_j25 : Tryd.prog.mayEnter = true := by kernel_rfl
theorem topLends_j26 : (Rows.topLendsRow.lifted == Tryd.prog.liftsFinal) = true := by kernel_rfl
theorem topLends_j27 : (Tryd.prog.make == some Rows.topLendsRow.make) = true := by kernel_rfl
theorem topLends_j29 : (Rows.topLendsRow.pinned == Rows.topLendsRow.pinnedBy) = true := by kernel_rfl
theorem topLends_j30 : (Rows.topLendsRow.veiled == (Tryd.f3.params.toList ++ Rows.topLendsSpec.plain.varTypes Tryd.prog ++ Tryd.f3.resultTypes.toList).any (Tryd.prog.veiledRec ·)) = true := by kernel_rfl
theorem topLends_j31 : Rows.topLendsRow.veiledFits Tryd.prog Tryd.f3.params.toList (Tryd.f3.params.toList ++ Rows.topLendsSpec.plain.varTypes Tryd.prog ++ Tryd.f3.resultTypes.toList) = true := by kernel_rfl

set_option maxRecDepth 100000 in
theorem topLends_facts : joinedFacts Tryd.prog 3 Tryd.f3 Rows.topLendsSpec Rows.topLendsRow = true := by
  unfold joinedFacts
  simp only [Bool.and_eq_true]
  exact ⟨⟨⟨⟨⟨⟨⟨⟨⟨⟨⟨⟨⟨⟨⟨⟨⟨⟨⟨⟨⟨⟨⟨⟨⟨⟨⟨⟨⟨⟨⟨topLends_j0, topLends_j1⟩, topLends_j2⟩, topLends_j3⟩, topLends_j4⟩, topLends_j5⟩, topLends_j6⟩, topLends_j7⟩, topLends_j8⟩, topLends_j9⟩, topLends_j10⟩, topLends_j11⟩, topLends_j12⟩, topLends_j13⟩, topLends_j14⟩, topLends_j15⟩, topLends_j16⟩, topLends_j17⟩, topLends_j18⟩, topLends_j19⟩, topLends_j20⟩, topLends_j21⟩, topLends_j22⟩, topLends_j23⟩, topLends_j24⟩, topLends_j25⟩, topLends_j26⟩, topLends_j27⟩, (by kernel_rfl)⟩, topLends_j29⟩, topLends_j30⟩, topLends_j31⟩
end Go.Proofs.YthpjeclhignciaaDoor
