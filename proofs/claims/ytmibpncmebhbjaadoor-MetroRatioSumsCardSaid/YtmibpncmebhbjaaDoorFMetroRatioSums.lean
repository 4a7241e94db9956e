/- metroRatioSums: the closed facts that the row's builder asks. -/
import Derived.Test.YtmibpncmebhbjaaDoorP12
import Derived.Test.YtmibpncmebhbjaaDoorRows
import Derived.JoinedOf
namespace Go.Proofs.YtmibpncmebhbjaaDoor
open Go

theorem metroRatioSums_j0 : Rows.metroRatioSumsRow.wf (OpenSpec.ofChange Rows.metroRatioSumsSpec) = true := by kernel_rfl
theorem metroRatioSums_j3 : Tryd.f19.params.all (Tryd.prog.readableRec ·) = true := by kernel_rfl
theorem metroRatioSums_j4 : namedTie Tryd.prog Rows.metroRatioSumsRow.named Rows.metroRatioSumsSpec.vars = true := by kernel_rfl
theorem metroRatioSums_j5 : (Rows.metroRatioSumsRow.stops == []) = true := by kernel_rfl
theorem metroRatioSums_j7 : (Rows.metroRatioSumsRow.knobs == []) = true := by kernel_rfl
theorem metroRatioSums_j9 : (Rows.metroRatioSumsRow.inPlace == Tryd.prog.inPlace 19) = true := by kernel_rfl
theorem metroRatioSums_j10 : (Rows.metroRatioSumsRow.unfollowed == Tryd.prog.unfollowed 19) = true := by kernel_rfl
theorem metroRatioSums_j11 : (Rows.metroRatioSumsRow.recurses == Tryd.prog.recurses 19) = true := by kernel_rfl
theorem metroRatioSums_j12 : (Rows.metroRatioSumsRow.named == Tryd.prog.varsNamed 19) = true := by kernel_rfl
theorem metroRatioSums_j13 : (Rows.metroRatioSumsRow.maps == (Tryd.f19.params.toList ++ Rows.metroRatioSumsSpec.plain.varTypes Tryd.prog).any (Tryd.prog.mapsRec ·)) = true := by kernel_rfl
theorem metroRatioSums_j14 : (Rows.metroRatioSumsRow.ifaces == (Tryd.f19.params.toList ++ Rows.metroRatioSumsSpec.plain.varTypes Tryd.prog).any (Tryd.prog.ifacesRec ·)) = true := by kernel_rfl
theorem metroRatioSums_j15 : (Rows.metroRatioSumsRow.mapsOut == Tryd.prog.mapsAmong Tryd.f19.resultTypes.toList) = true := by kernel_rfl
theorem metroRatioSums_j16 : (Rows.metroRatioSumsRow.loops == (Tryd.f19.params.toList ++ Rows.metroRatioSumsSpec.plain.varTypes Tryd.prog).any (Tryd.prog.loopsFrom ·)) = true := by kernel_rfl
theorem metroRatioSums_j17 : (Rows.metroRatioSumsRow.wideKeys == (Tryd.f19.params.toList ++ Rows.metroRatioSumsSpec.plain.varTypes Tryd.prog ++ Tryd.f19.resultTypes.toList).any (Tryd.prog.wideKeysFrom ·)) = true := by kernel_rfl
theorem metroRatioSums_j18 : Rows.metroRatioSumsSpec.vars.all (Tryd.prog.varReadable ·) = true := by kernel_rfl
theorem metroRatioSums_j19 : Tryd.f19.resultTypes.all (fun t => Tryd.prog.readableRec t && decide (t < Tryd.prog.types.size)) = true := by kernel_rfl
theorem metroRatioSums_j20 : (Rows.metroRatioSumsRow.ifacesOut == Tryd.f19.resultTypes.toList.any (Tryd.prog.ifacesRec ·)) = true := by kernel_rfl
theorem metroRatioSums_j21 : (Rows.metroRatioSumsRow.loopsOut == Tryd.f19.resultTypes.toList.any (Tryd.prog.loopsFrom ·)) = true := by kernel_rfl
theorem metroRatioSums_j22 : (Rows.metroRatioSumsRow.plainKeys == Tryd.prog.plainKeys) = true := by kernel_rfl
theorem metroRatioSums_j23 : Rows.metroRatioSumsRow.shortTexts.isNone = true := by kernel_rfl
theorem metroRatioSums_j26 : (Rows.metroRatioSumsRow.lifted == Tryd.prog.liftsFinal) = true := by kernel_rfl
theorem metroRatioSums_j27 : (Tryd.prog.make == some Rows.metroRatioSumsRow.make) = true := by kernel_rfl
theorem metroRatioSums_j29 : (Rows.metroRatioSumsRow.pinned == Rows.metroRatioSumsRow.pinnedBy) = true := by kernel_rfl
theorem metroRatioSums_j30 : (Rows.metroRatioSumsRow.veiled == (Tryd.f19.params.toList ++ Rows.metroRatioSumsSpec.plain.varTypes Tryd.prog ++ Tryd.f19.resultTypes.toList).any (Tryd.prog.veiledRec ·)) = true := by kernel_rfl
theorem metroRatioSums_j31 : Rows.metroRatioSumsRow.veiledFits Tryd.prog Tryd.f19.params.toList (Tryd.f19.params.toList ++ Rows.metroRatioSumsSpec.plain.varTypes Tryd.prog ++ Tryd.f19.resultTypes.toList) = true := by kernel_rfl

set_option maxRecDepth 100000 in
theorem metroRatioSums_facts : joinedFacts Tryd.prog 19 Tryd.f19 Rows.metroRatioSumsSpec Rows.metroRatioSumsRow = true := by
  unfold joinedFacts
  simp only [Bool.and_eq_true]
  exact ⟨⟨⟨⟨⟨⟨⟨⟨⟨⟨⟨⟨⟨⟨⟨⟨⟨⟨⟨⟨⟨⟨⟨⟨⟨⟨⟨⟨⟨⟨⟨metroRatioSums_j0, metroRatioMakes_j1⟩, metroRatioMakes_j2⟩, metroRatioSums_j3⟩, metroRatioSums_j4⟩, metroRatioSums_j5⟩, metroRatioMakes_j6⟩, metroRatioSums_j7⟩, metroRatioMakes_j8⟩, metroRatioSums_j9⟩, metroRatioSums_j10⟩, metroRatioSums_j11⟩, metroRatioSums_j12⟩, metroRatioSums_j13⟩, metroRatioSums_j14⟩, metroRatioSums_j15⟩, metroRatioSums_j16⟩, metroRatioSums_j17⟩, metroRatioSums_j18⟩, metroRatioSums_j19⟩, metroRatioSums_j20⟩, metroRatioSums_j21⟩, metroRatioSums_j22⟩, metroRatioSums_j23⟩, metroRatioMakes_j24⟩, metroRatioMakes_j25⟩, metroRatioSums_j26⟩, metroRatioSums_j27⟩, (by kernel_rfl)⟩, metroRatioSums_j29⟩, metroRatioSums_j30⟩, metroRatioSums_j31⟩
end Go.Proofs.YtmibpncmebhbjaaDoor
