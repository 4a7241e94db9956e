/- metroLadderReads: the closed facts that the row's builder asks. -/
import Derived.Test.YtmibpncmebhbjaaDoorP12
import Derived.Test.YtmibpncmebhbjaaDoorRows
import Derived.JoinedOf
namespace Go.Proofs.YtmibpncmebhbjaaDoor
open Go

theorem metroLadderReads_j0 : Rows.metroLadderReadsRow.wf (OpenSpec.ofChange Rows.metroLadderReadsSpec) = true := by kernel_rfl
theorem metroLadderReads_j3 : Tryd.f4.params.all (Tryd.prog.readableRec ·) = true := by kernel_rfl
theorem metroLadderReads_j4 : namedTie Tryd.prog Rows.metroLadderReadsRow.named Rows.metroLadderReadsSpec.vars = true := by kernel_rfl
theorem metroLadderReads_j5 : (Rows.metroLadderReadsRow.stops == []) = true := by kernel_rfl
theorem metroLadderReads_j7 : (Rows.metroLadderReadsRow.knobs == []) = true := by kernel_rfl
theorem metroLadderReads_j9 : (Rows.metroLadderReadsRow.inPlace == Tryd.prog.inPlace 4) = true := by kernel_rfl
theorem metroLadderReads_j10 : (Rows.metroLadderReadsRow.unfollowed == Tryd.prog.unfollowed 4) = true := by kernel_rfl
theorem metroLadderReads_j11 : (Rows.metroLadderReadsRow.recurses == Tryd.prog.recurses 4) = true := by kernel_rfl
theorem metroLadderReads_j12 : (Rows.metroLadderReadsRow.named == Tryd.prog.varsNamed 4) = true := by kernel_rfl
theorem metroLadderReads_j13 : (Rows.metroLadderReadsRow.maps == (Tryd.f4.params.toList ++ Rows.metroLadderReadsSpec.plain.varTypes Tryd.prog).any (Tryd.prog.mapsRec ·)) = true := by kernel_rfl
theorem metroLadderReads_j14 : (Rows.metroLadderReadsRow.ifaces == (Tryd.f4.params.toList ++ Rows.metroLadderReadsSpec.plain.varTypes Tryd.prog).any (Tryd.prog.ifacesRec ·)) = true := by kernel_rfl
theorem metroLadderReads_j15 : (Rows.metroLadderReadsRow.mapsOut == Tryd.prog.mapsAmong Tryd.f4.resultTypes.toList) = true := by kernel_rfl
theorem metroLadderReads_j16 : (Rows.metroLadderReadsRow.loops == (Tryd.f4.params.toList ++ Rows.metroLadderReadsSpec.plain.varTypes Tryd.prog).any (Tryd.prog.loopsFrom ·)) = true := by kernel_rfl
theorem metroLadderReads_j17 : (Rows.metroLadderReadsRow.wideKeys == (Tryd.f4.params.toList ++ Rows.metroLadderReadsSpec.plain.varTypes Tryd.prog ++ Tryd.f4.resultTypes.toList).any (Tryd.prog.wideKeysFrom ·)) = true := by kernel_rfl
theorem metroLadderReads_j18 : Rows.metroLadderReadsSpec.vars.all (Tryd.prog.varReadable ·) = true := by kernel_rfl
theorem metroLadderReads_j19 : Tryd.f4.resultTypes.all (fun t => Tryd.prog.readableRec t && decide (t < Tryd.prog.types.size)) = true := by kernel_rfl
theorem metroLadderReads_j20 : (Rows.metroLadderReadsRow.ifacesOut == Tryd.f4.resultTypes.toList.any (Tryd.prog.ifacesRec ·)) = true := by kernel_rfl
theorem metroLadderReads_j21 : (Rows.metroLadderReadsRow.loopsOut == Tryd.f4.resultTypes.toList.any (Tryd.prog.loopsFrom ·)) = true := by kernel_rfl
theorem metroLadderReads_j22 : (Rows.metroLadderReadsRow.plainKeys == Tryd.prog.plainKeys) = true := by kernel_rfl
theorem metroLadderReads_j23 : Rows.metroLadderReadsRow.shortTexts.isNone = true := by kernel_rfl
theorem metroLadderReads_j26 : (Rows.metroLadderReadsRow.lifted == Tryd.prog.liftsFinal) = true := by kernel_rfl
theorem metroLadderReads_j27 : (Tryd.prog.make == some Rows.metroLadderReadsRow.make) = true := by kernel_rfl
theorem metroLadderReads_j29 : (Rows.metroLadderReadsRow.pinned == Rows.metroLadderReadsRow.pinnedBy) = true := by kernel_rfl
theorem metroLadderReads_j30 : (Rows.metroLadderReadsRow.veiled == (Tryd.f4.params.toList ++ Rows.metroLadderReadsSpec.plain.varTypes Tryd.prog ++ Tryd.f4.resultTypes.toList).any (Tryd.prog.veiledRec ·)) = true := by kernel_rfl
theorem metroLadderReads_j31 : Rows.metroLadderReadsRow.veiledFits Tryd.prog Tryd.f4.params.toList (Tryd.f4.params.toList ++ Rows.metroLadderReadsSpec.plain.varTypes Tryd.prog ++ Tryd.f4.resultTypes.toList) = true := by kernel_rfl

set_option maxRecDepth 100000 in
theorem metroLadderReads_facts : joinedFacts Tryd.prog 4 Tryd.f4 Rows.metroLadderReadsSpec Rows.metroLadderReadsRow = true := by
  unfold joinedFacts
  simp only [Bool.and_eq_true]
  exact ⟨⟨⟨⟨⟨⟨⟨⟨⟨⟨⟨⟨⟨⟨⟨⟨⟨⟨⟨⟨⟨⟨⟨⟨⟨⟨⟨⟨⟨⟨⟨metroLadderReads_j0, metroRatioMakes_j1⟩, metroRatioMakes_j2⟩, metroLadderReads_j3⟩, metroLadderReads_j4⟩, metroLadderReads_j5⟩, metroRatioMakes_j6⟩, metroLadderReads_j7⟩, metroRatioMakes_j8⟩, metroLadderReads_j9⟩, metroLadderReads_j10⟩, metroLadderReads_j11⟩, metroLadderReads_j12⟩, metroLadderReads_j13⟩, metroLadderReads_j14⟩, metroLadderReads_j15⟩, metroLadderReads_j16⟩, metroLadderReads_j17⟩, metroLadderReads_j18⟩, metroLadderReads_j19⟩, metroLadderReads_j20⟩, metroLadderReads_j21⟩, metroLadderReads_j22⟩, metroLadderReads_j23⟩, metroRatioMakes_j24⟩, metroRatioMakes_j25⟩, metroLadderReads_j26⟩, metroLadderReads_j27⟩, (by kernel_rfl)⟩, metroLadderReads_j29⟩, metroLadderReads_j30⟩, metroLadderReads_j31⟩
end Go.Proofs.YtmibpncmebhbjaaDoor
