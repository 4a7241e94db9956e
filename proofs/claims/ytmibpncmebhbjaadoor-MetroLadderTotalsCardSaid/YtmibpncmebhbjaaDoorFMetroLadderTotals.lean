/- metroLadderTotals: the closed facts that the row's builder asks. -/
import Derived.Test.YtmibpncmebhbjaaDoorP12
import Derived.Test.YtmibpncmebhbjaaDoorRows
import Derived.JoinedOf
namespace Go.Proofs.YtmibpncmebhbjaaDoor
open Go

theorem metroLadderTotals_j0 : Rows.metroLadderTotalsRow.wf (OpenSpec.ofChange Rows.metroLadderTotalsSpec) = true := by kernel_rfl
theorem metroLadderTotals_j3 : Tryd.f17.params.all (Tryd.prog.readableRec ·) = true := by kernel_rfl
theorem metroLadderTotals_j4 : namedTie Tryd.prog Rows.metroLadderTotalsRow.named Rows.metroLadderTotalsSpec.vars = true := by kernel_rfl
theorem metroLadderTotals_j5 : (Rows.metroLadderTotalsRow.stops == []) = true := by kernel_rfl
theorem metroLadderTotals_j7 : (Rows.metroLadderTotalsRow.knobs == []) = true := by kernel_rfl
theorem metroLadderTotals_j9 : (Rows.metroLadderTotalsRow.inPlace == Tryd.prog.inPlace 17) = true := by kernel_rfl
theorem metroLadderTotals_j10 : (Rows.metroLadderTotalsRow.unfollowed == Tryd.prog.unfollowed 17) = true := by kernel_rfl
theorem metroLadderTotals_j11 : (Rows.metroLadderTotalsRow.recurses == Tryd.prog.recurses 17) = true := by kernel_rfl
theorem metroLadderTotals_j12 : (Rows.metroLadderTotalsRow.named == Tryd.prog.varsNamed 17) = true := by kernel_rfl
theorem metroLadderTotals_j13 : (Rows.metroLadderTotalsRow.maps == (Tryd.f17.params.toList ++ Rows.metroLadderTotalsSpec.plain.varTypes Tryd.prog).any (Tryd.prog.mapsRec ·)) = true := by kernel_rfl
theorem metroLadderTotals_j14 : (Rows.metroLadderTotalsRow.ifaces == (Tryd.f17.params.toList ++ Rows.metroLadderTotalsSpec.plain.varTypes Tryd.prog).any (Tryd.prog.ifacesRec ·)) = true := by kernel_rfl
theorem metroLadderTotals_j15 : (Rows.metroLadderTotalsRow.mapsOut == Tryd.prog.mapsAmong Tryd.f17.resultTypes.toList) = true := by kernel_rfl
theorem metroLadderTotals_j16 : (Rows.metroLadderTotalsRow.loops == (Tryd.f17.params.toList ++ Rows.metroLadderTotalsSpec.plain.varTypes Tryd.prog).any (Tryd.prog.loopsFrom ·)) = true := by kernel_rfl
theorem metroLadderTotals_j17 : (Rows.metroLadderTotalsRow.wideKeys == (Tryd.f17.params.toList ++ Rows.metroLadderTotalsSpec.plain.varTypes Tryd.prog ++ Tryd.f17.resultTypes.toList).any (Tryd.prog.wideKeysFrom ·)) = true := by kernel_rfl
theorem metroLadderTotals_j18 : Rows.metroLadderTotalsSpec.vars.all (Tryd.prog.varReadable ·) = true := by kernel_rfl
theorem metroLadderTotals_j19 : Tryd.f17.resultTypes.all (fun t => Tryd.prog.readableRec t && decide (t < Tryd.prog.types.size)) = true := by kernel_rfl
theorem metroLadderTotals_j20 : (Rows.metroLadderTotalsRow.ifacesOut == Tryd.f17.resultTypes.toList.any (Tryd.prog.ifacesRec ·)) = true := by kernel_rfl
theorem metroLadderTotals_j21 : (Rows.metroLadderTotalsRow.loopsOut == Tryd.f17.resultTypes.toList.any (Tryd.prog.loopsFrom ·)) = true := by kernel_rfl
theorem metroLadderTotals_j22 : (Rows.metroLadderTotalsRow.plainKeys == Tryd.prog.plainKeys) = true := by kernel_rfl
theorem metroLadderTotals_j23 : Rows.metroLadderTotalsRow.shortTexts.isNone = true := by kernel_rfl
theorem metroLadderTotals_j26 : (Rows.metroLadderTotalsRow.lifted == Tryd.prog.liftsFinal) = true := by kernel_rfl
theorem metroLadderTotals_j27 : (Tryd.prog.make == some Rows.metroLadderTotalsRow.make) = true := by kernel_rfl
theorem metroLadderTotals_j29 : (Rows.metroLadderTotalsRow.pinned == Rows.metroLadderTotalsRow.pinnedBy) = true := by kernel_rfl
theorem metroLadderTotals_j30 : (Rows.metroLadderTotalsRow.veiled == (Tryd.f17.params.toList ++ Rows.metroLadderTotalsSpec.plain.varTypes Tryd.prog ++ Tryd.f17.resultTypes.toList).any (Tryd.prog.veiledRec ·)) = true := by kernel_rfl
theorem metroLadderTotals_j31 : Rows.metroLadderTotalsRow.veiledFits Tryd.prog Tryd.f17.params.toList (Tryd.f17.params.toList ++ Rows.metroLadderTotalsSpec.plain.varTypes Tryd.prog ++ Tryd.f17.resultTypes.toList) = true := by kernel_rfl

set_option maxRecDepth 100000 in
theorem metroLadderTotals_facts : joinedFacts Tryd.prog 17 Tryd.f17 Rows.metroLadderTotalsSpec Rows.metroLadderTotalsRow = true := by
  unfold joinedFacts
  simp only [Bool.and_eq_true]
  exact ⟨⟨⟨⟨⟨⟨⟨⟨⟨⟨⟨⟨⟨⟨⟨⟨⟨⟨⟨⟨⟨⟨⟨⟨⟨⟨⟨⟨⟨⟨⟨metroLadderTotals_j0, metroRatioMakes_j1⟩, metroRatioMakes_j2⟩, metroLadderTotals_j3⟩, metroLadderTotals_j4⟩, metroLadderTotals_j5⟩, metroRatioMakes_j6⟩, metroLadderTotals_j7⟩, metroRatioMakes_j8⟩, metroLadderTotals_j9⟩, metroLadderTotals_j10⟩, metroLadderTotals_j11⟩, metroLadderTotals_j12⟩, metroLadderTotals_j13⟩, metroLadderTotals_j14⟩, metroLadderTotals_j15⟩, metroLadderTotals_j16⟩, metroLadderTotals_j17⟩, metroLadderTotals_j18⟩, metroLadderTotals_j19⟩, metroLadderTotals_j20⟩, metroLadderTotals_j21⟩, metroLadderTotals_j22⟩, metroLadderTotals_j23⟩, metroRatioMakes_j24⟩, metroRatioMakes_j25⟩, metroLadderTotals_j26⟩, metroLadderTotals_j27⟩, (by kernel_rfl)⟩, metroLadderTotals_j29⟩, metroLadderTotals_j30⟩, metroLadderTotals_j31⟩
end Go.Proofs.YtmibpncmebhbjaaDoor
