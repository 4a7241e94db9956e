/- metroBookConverts: the closed facts that the row's builder asks. -/
import Derived.Test.YtmibpncmebhbjaaDoorP12
import Derived.Test.YtmibpncmebhbjaaDoorRows
import Derived.JoinedOf
namespace Go.Proofs.YtmibpncmebhbjaaDoor
open Go

theorem metroBookConverts_j0 : Rows.metroBookConvertsRow.wf (OpenSpec.ofChange Rows.metroBookConvertsSpec) = true := by kernel_rfl
theorem metroBookConverts_j3 : Tryd.f6.params.all (Tryd.prog.readableRec ·) = true := by kernel_rfl
theorem metroBookConverts_j4 : namedTie Tryd.prog Rows.metroBookConvertsRow.named Rows.metroBookConvertsSpec.vars = true := by kernel_rfl
theorem metroBookConverts_j5 : (Rows.metroBookConvertsRow.stops == []) = true := by kernel_rfl
theorem metroBookConverts_j7 : (Rows.metroBookConvertsRow.knobs == []) = true := by kernel_rfl
theorem metroBookConverts_j9 : (Rows.metroBookConvertsRow.inPlace == Tryd.prog.inPlace 6) = true := by kernel_rfl
theorem metroBookConverts_j10 : (Rows.metroBookConvertsRow.unfollowed == Tryd.prog.unfollowed 6) = true := by kernel_rfl
theorem metroBookConverts_j11 : (Rows.metroBookConvertsRow.recurses == Tryd.prog.recurses 6) = true := by kernel_rfl
theorem metroBookConverts_j12 : (Rows.metroBookConvertsRow.named == Tryd.prog.varsNamed 6) = true := by kernel_rfl
theorem metroBookConverts_j13 : (Rows.metroBookConvertsRow.maps == (Tryd.f6.params.toList ++ Rows.metroBookConvertsSpec.plain.varTypes Tryd.prog).any (Tryd.prog.mapsRec ·)) = true := by kernel_rfl
theorem metroBookConverts_j14 : (Rows.metroBookConvertsRow.ifaces == (Tryd.f6.params.toList ++ Rows.metroBookConvertsSpec.plain.varTypes Tryd.prog).any (Tryd.prog.ifacesRec ·)) = true := by kernel_rfl
theorem metroBookConverts_j15 : (Rows.metroBookConvertsRow.mapsOut == Tryd.prog.mapsAmong Tryd.f6.resultTypes.toList) = true := by kernel_rfl
theorem metroBookConverts_j16 : (Rows.metroBookConvertsRow.loops == (Tryd.f6.params.toList ++ Rows.metroBookConvertsSpec.plain.varTypes Tryd.prog).any (Tryd.prog.loopsFrom ·)) = true := by kernel_rfl
theorem metroBookConverts_j17 : (Rows.metroBookConvertsRow.wideKeys == (Tryd.f6.params.toList ++ Rows.metroBookConvertsSpec.plain.varTypes Tryd.prog ++ Tryd.f6.resultTypes.toList).any (Tryd.prog.wideKeysFrom ·)) = true := by kernel_rfl
theorem metroBookConverts_j18 : Rows.metroBookConvertsSpec.vars.all (Tryd.prog.varReadable ·) = true := by kernel_rfl
theorem metroBookConverts_j19 : Tryd.f6.resultTypes.all (fun t => Tryd.prog.readableRec t && decide (t < Tryd.prog.types.size)) = true := by kernel_rfl
theorem metroBookConverts_j20 : (Rows.metroBookConvertsRow.ifacesOut == Tryd.f6.resultTypes.toList.any (Tryd.prog.ifacesRec ·)) = true := by kernel_rfl
theorem metroBookConverts_j21 : (Rows.metroBookConvertsRow.loopsOut == Tryd.f6.resultTypes.toList.any (Tryd.prog.loopsFrom ·)) = true := by kernel_rfl
theorem metroBookConverts_j22 : (Rows.metroBookConvertsRow.plainKeys == Tryd.prog.plainKeys) = true := by kernel_rfl
theorem metroBookConverts_j23 : Rows.metroBookConvertsRow.shortTexts.isNone = true := by kernel_rfl
theorem metroBookConverts_j26 : (Rows.metroBookConvertsRow.lifted == Tryd.prog.liftsFinal) = true := by kernel_rfl
theorem metroBookConverts_j27 : (Tryd.prog.make == some Rows.metroBookConvertsRow.make) = true := by kernel_rfl
theorem metroBookConverts_j29 : (Rows.metroBookConvertsRow.pinned == Rows.metroBookConvertsRow.pinnedBy) = true := by kernel_rfl
theorem metroBookConverts_j30 : (Rows.metroBookConvertsRow.veiled == (Tryd.f6.params.toList ++ Rows.metroBookConvertsSpec.plain.varTypes Tryd.prog ++ Tryd.f6.resultTypes.toList).any (Tryd.prog.veiledRec ·)) = true := by kernel_rfl
theorem metroBookConverts_j31 : Rows.metroBookConvertsRow.veiledFits Tryd.prog Tryd.f6.params.toList (Tryd.f6.params.toList ++ Rows.metroBookConvertsSpec.plain.varTypes Tryd.prog ++ Tryd.f6.resultTypes.toList) = true := by kernel_rfl

set_option maxRecDepth 100000 in
theorem metroBookConverts_facts : joinedFacts Tryd.prog 6 Tryd.f6 Rows.metroBookConvertsSpec Rows.metroBookConvertsRow = true := by
  unfold joinedFacts
  simp only [Bool.and_eq_true]
  exact ⟨⟨⟨⟨⟨⟨⟨⟨⟨⟨⟨⟨⟨⟨⟨⟨⟨⟨⟨⟨⟨⟨⟨⟨⟨⟨⟨⟨⟨⟨⟨metroBookConverts_j0, metroRatioMakes_j1⟩, metroRatioMakes_j2⟩, metroBookConverts_j3⟩, metroBookConverts_j4⟩, metroBookConverts_j5⟩, metroRatioMakes_j6⟩, metroBookConverts_j7⟩, metroRatioMakes_j8⟩, metroBookConverts_j9⟩, metroBookConverts_j10⟩, metroBookConverts_j11⟩, metroBookConverts_j12⟩, metroBookConverts_j13⟩, metroBookConverts_j14⟩, metroBookConverts_j15⟩, metroBookConverts_j16⟩, metroBookConverts_j17⟩, metroBookConverts_j18⟩, metroBookConverts_j19⟩, metroBookConverts_j20⟩, metroBookConverts_j21⟩, metroBookConverts_j22⟩, metroBookConverts_j23⟩, metroRatioMakes_j24⟩, metroRatioMakes_j25⟩, metroBookConverts_j26⟩, metroBookConverts_j27⟩, (by kernel_rfl)⟩, metroBookConverts_j29⟩, metroBookConverts_j30⟩, metroBookConverts_j31⟩
end Go.Proofs.YtmibpncmebhbjaaDoor
