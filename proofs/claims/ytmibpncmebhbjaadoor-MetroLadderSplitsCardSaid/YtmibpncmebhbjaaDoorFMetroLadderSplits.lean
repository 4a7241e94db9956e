/- metroLadderSplits: the closed facts that the row's builder asks. -/
import Derived.Test.YtmibpncmebhbjaaDoorP12
import Derived.Test.YtmibpncmebhbjaaDoorRows
import Derived.JoinedOf
namespace Go.Proofs.YtmibpncmebhbjaaDoor
open Go

theorem metroLadderSplits_j0 : Rows.metroLadderSplitsRow.wf (OpenSpec.ofChange Rows.metroLadderSplitsSpec) = true := by kernel_rfl
theorem metroLadderSplits_j3 : Tryd.f10.params.all (Tryd.prog.readableRec ·) = true := by kernel_rfl
theorem metroLadderSplits_j4 : namedTie Tryd.prog Rows.metroLadderSplitsRow.named Rows.metroLadderSplitsSpec.vars = true := by kernel_rfl
theorem metroLadderSplits_j5 : (Rows.metroLadderSplitsRow.stops == []) = true := by kernel_rfl
theorem metroLadderSplits_j7 : (Rows.metroLadderSplitsRow.knobs == []) = true := by kernel_rfl
theorem metroLadderSplits_j9 : (Rows.metroLadderSplitsRow.inPlace == Tryd.prog.inPlace 10) = true := by kernel_rfl
theorem metroLadderSplits_j10 : (Rows.metroLadderSplitsRow.unfollowed == Tryd.prog.unfollowed 10) = true := by kernel_rfl
theorem metroLadderSplits_j11 : (Rows.metroLadderSplitsRow.recurses == Tryd.prog.recurses 10) = true := by kernel_rfl
theorem metroLadderSplits_j12 : (Rows.metroLadderSplitsRow.named == Tryd.prog.varsNamed 10) = true := by kernel_rfl
theorem metroLadderSplits_j13 : (Rows.metroLadderSplitsRow.maps == (Tryd.f10.params.toList ++ Rows.metroLadderSplitsSpec.plain.varTypes Tryd.prog).any (Tryd.prog.mapsRec ·)) = true := by kernel_rfl
theorem metroLadderSplits_j14 : (Rows.metroLadderSplitsRow.ifaces == (Tryd.f10.params.toList ++ Rows.metroLadderSplitsSpec.plain.varTypes Tryd.prog).any (Tryd.prog.ifacesRec ·)) = true := by kernel_rfl
theorem metroLadderSplits_j15 : (Rows.metroLadderSplitsRow.mapsOut == Tryd.prog.mapsAmong Tryd.f10.resultTypes.toList) = true := by kernel_rfl
theorem metroLadderSplits_j16 : (Rows.metroLadderSplitsRow.loops == (Tryd.f10.params.toList ++ Rows.metroLadderSplitsSpec.plain.varTypes Tryd.prog).any (Tryd.prog.loopsFrom ·)) = true := by kernel_rfl
theorem metroLadderSplits_j17 : (Rows.metroLadderSplitsRow.wideKeys == (Tryd.f10.params.toList ++ Rows.metroLadderSplitsSpec.plain.varTypes Tryd.prog ++ Tryd.f10.resultTypes.toList).any (Tryd.prog.wideKeysFrom ·)) = true := by kernel_rfl
theorem metroLadderSplits_j18 : Rows.metroLadderSplitsSpec.vars.all (Tryd.prog.varReadable ·) = true := by kernel_rfl
theorem metroLadderSplits_j19 : Tryd.f10.resultTypes.all (fun t => Tryd.prog.readableRec t && decide (t < Tryd.prog.types.size)) = true := by kernel_rfl
theorem metroLadderSplits_j20 : (Rows.metroLadderSplitsRow.ifacesOut == Tryd.f10.resultTypes.toList.any (Tryd.prog.ifacesRec ·)) = true := by kernel_rfl
theorem metroLadderSplits_j21 : (Rows.metroLadderSplitsRow.loopsOut == Tryd.f10.resultTypes.toList.any (Tryd.prog.loopsFrom ·)) = true := by kernel_rfl
theorem metroLadderSplits_j22 : (Rows.metroLadderSplitsRow.plainKeys == Tryd.prog.plainKeys) = true := by kernel_rfl
theorem metroLadderSplits_j23 : Rows.metroLadderSplitsRow.shortTexts.isNone = true := by kernel_rfl
theorem metroLadderSplits_j26 : (Rows.metroLadderSplitsRow.lifted == Tryd.prog.liftsFinal) = true := by kernel_rfl
theorem metroLadderSplits_j27 : (Tryd.prog.make == some Rows.metroLadderSplitsRow.make) = true := by kernel_rfl
theorem metroLadderSplits_j29 : (Rows.metroLadderSplitsRow.pinned == Rows.metroLadderSplitsRow.pinnedBy) = true := by kernel_rfl
theorem metroLadderSplits_j30 : (Rows.metroLadderSplitsRow.veiled == (Tryd.f10.params.toList ++ Rows.metroLadderSplitsSpec.plain.varTypes Tryd.prog ++ Tryd.f10.resultTypes.toList).any (Tryd.prog.veiledRec ·)) = true := by kernel_rfl
theorem metroLadderSplits_j31 : Rows.metroLadderSplitsRow.veiledFits Tryd.prog Tryd.f10.params.toList (Tryd.f10.params.toList ++ Rows.metroLadderSplitsSpec.plain.varTypes Tryd.prog ++ Tryd.f10.resultTypes.toList) = true := by kernel_rfl

set_option maxRecDepth 100000 in
theorem metroLadderSplits_facts : joinedFacts Tryd.prog 10 Tryd.f10 Rows.metroLadderSplitsSpec Rows.metroLadderSplitsRow = true := by
  unfold joinedFacts
  simp only [Bool.and_eq_true]
  exact ⟨⟨⟨⟨⟨⟨⟨⟨⟨⟨⟨⟨⟨⟨⟨⟨⟨⟨⟨⟨⟨⟨⟨⟨⟨⟨⟨⟨⟨⟨⟨metroLadderSplits_j0, metroRatioMakes_j1⟩, metroRatioMakes_j2⟩, metroLadderSplits_j3⟩, metroLadderSplits_j4⟩, metroLadderSplits_j5⟩, metroRatioMakes_j6⟩, metroLadderSplits_j7⟩, metroRatioMakes_j8⟩, metroLadderSplits_j9⟩, metroLadderSplits_j10⟩, metroLadderSplits_j11⟩, metroLadderSplits_j12⟩, metroLadderSplits_j13⟩, metroLadderSplits_j14⟩, metroLadderSplits_j15⟩, metroLadderSplits_j16⟩, metroLadderSplits_j17⟩, metroLadderSplits_j18⟩, metroLadderSplits_j19⟩, metroLadderSplits_j20⟩, metroLadderSplits_j21⟩, metroLadderSplits_j22⟩, metroLadderSplits_j23⟩, metroRatioMakes_j24⟩, metroRatioMakes_j25⟩, metroLadderSplits_j26⟩, metroLadderSplits_j27⟩, (by kernel_rfl)⟩, metroLadderSplits_j29⟩, metroLadderSplits_j30⟩, metroLadderSplits_j31⟩
end Go.Proofs.YtmibpncmebhbjaaDoor
