/- metroRoundNear: the closed facts that the row's builder asks. -/
import Derived.Test.YtmibpncmebhbjaaDoorP12
import Derived.Test.YtmibpncmebhbjaaDoorRows
import Derived.JoinedOf
namespace Go.Proofs.YtmibpncmebhbjaaDoor
open Go

theorem metroRoundNear_j0 : Rows.metroRoundNearRow.wf (OpenSpec.ofChange Rows.metroRoundNearSpec) = true := by kernel_rfl
theorem metroRoundNear_j3 : Tryd.f8.params.all (Tryd.prog.readableRec ·) = true := by kernel_rfl
theorem metroRoundNear_j4 : namedTie Tryd.prog Rows.metroRoundNearRow.named Rows.metroRoundNearSpec.vars = true := by kernel_rfl
theorem metroRoundNear_j5 : (Rows.metroRoundNearRow.stops == []) = true := by kernel_rfl
theorem metroRoundNear_j7 : (Rows.metroRoundNearRow.knobs == []) = true := by kernel_rfl
theorem metroRoundNear_j9 : (Rows.metroRoundNearRow.inPlace == Tryd.prog.inPlace 8) = true := by kernel_rfl
theorem metroRoundNear_j10 : (Rows.metroRoundNearRow.unfollowed == Tryd.prog.unfollowed 8) = true := by kernel_rfl
theorem metroRoundNear_j11 : (Rows.metroRoundNearRow.recurses == Tryd.prog.recurses 8) = true := by kernel_rfl
theorem metroRoundNear_j12 : (Rows.metroRoundNearRow.named == Tryd.prog.varsNamed 8) = true := by kernel_rfl
theorem metroRoundNear_j13 : (Rows.metroRoundNearRow.maps == (Tryd.f8.params.toList ++ Rows.metroRoundNearSpec.plain.varTypes Tryd.prog).any (Tryd.prog.mapsRec ·)) = true := by kernel_rfl
theorem metroRoundNear_j14 : (Rows.metroRoundNearRow.ifaces == (Tryd.f8.params.toList ++ Rows.metroRoundNearSpec.plain.varTypes Tryd.prog).any (Tryd.prog.ifacesRec ·)) = true := by kernel_rfl
theorem metroRoundNear_j15 : (Rows.metroRoundNearRow.mapsOut == Tryd.prog.mapsAmong Tryd.f8.resultTypes.toList) = true := by kernel_rfl
theorem metroRoundNear_j16 : (Rows.metroRoundNearRow.loops == (Tryd.f8.params.toList ++ Rows.metroRoundNearSpec.plain.varTypes Tryd.prog).any (Tryd.prog.loopsFrom ·)) = true := by kernel_rfl
theorem metroRoundNear_j17 : (Rows.metroRoundNearRow.wideKeys == (Tryd.f8.params.toList ++ Rows.metroRoundNearSpec.plain.varTypes Tryd.prog ++ Tryd.f8.resultTypes.toList).any (Tryd.prog.wideKeysFrom ·)) = true := by kernel_rfl
theorem metroRoundNear_j18 : Rows.metroRoundNearSpec.vars.all (Tryd.prog.varReadable ·) = true := by kernel_rfl
theorem metroRoundNear_j19 : Tryd.f8.resultTypes.all (fun t => Tryd.prog.readableRec t && decide (t < Tryd.prog.types.size)) = true := by kernel_rfl
theorem metroRoundNear_j20 : (Rows.metroRoundNearRow.ifacesOut == Tryd.f8.resultTypes.toList.any (Tryd.prog.ifacesRec ·)) = true := by kernel_rfl
theorem metroRoundNear_j21 : (Rows.metroRoundNearRow.loopsOut == Tryd.f8.resultTypes.toList.any (Tryd.prog.loopsFrom ·)) = true := by kernel_rfl
theorem metroRoundNear_j22 : (Rows.metroRoundNearRow.plainKeys == Tryd.prog.plainKeys) = true := by kernel_rfl
theorem metroRoundNear_j23 : Rows.metroRoundNearRow.shortTexts.isNone = true := by kernel_rfl
theorem metroRoundNear_j26 : (Rows.metroRoundNearRow.lifted == Tryd.prog.liftsFinal) = true := by kernel_rfl
theorem metroRoundNear_j27 : (Tryd.prog.make == some Rows.metroRoundNearRow.make) = true := by kernel_rfl
theorem metroRoundNear_j29 : (Rows.metroRoundNearRow.pinned == Rows.metroRoundNearRow.pinnedBy) = true := by kernel_rfl
theorem metroRoundNear_j30 : (Rows.metroRoundNearRow.veiled == (Tryd.f8.params.toList ++ Rows.metroRoundNearSpec.plain.varTypes Tryd.prog ++ Tryd.f8.resultTypes.toList).any (Tryd.prog.veiledRec ·)) = true := by kernel_rfl
theorem metroRoundNear_j31 : Rows.metroRoundNearRow.veiledFits Tryd.prog Tryd.f8.params.toList (Tryd.f8.params.toList ++ Rows.metroRoundNearSpec.plain.varTypes Tryd.prog ++ Tryd.f8.resultTypes.toList) = true := by kernel_rfl

set_option maxRecDepth 100000 in
theorem metroRoundNear_facts : joinedFacts Tryd.prog 8 Tryd.f8 Rows.metroRoundNearSpec Rows.metroRoundNearRow = true := by
  unfold joinedFacts
  simp only [Bool.and_eq_true]
  exact ⟨⟨⟨⟨⟨⟨⟨⟨⟨⟨⟨⟨⟨⟨⟨⟨⟨⟨⟨⟨⟨⟨⟨⟨⟨⟨⟨⟨⟨⟨⟨metroRoundNear_j0, metroRatioMakes_j1⟩, metroRatioMakes_j2⟩, metroRoundNear_j3⟩, metroRoundNear_j4⟩, metroRoundNear_j5⟩, metroRatioMakes_j6⟩, metroRoundNear_j7⟩, metroRatioMakes_j8⟩, metroRoundNear_j9⟩, metroRoundNear_j10⟩, metroRoundNear_j11⟩, metroRoundNear_j12⟩, metroRoundNear_j13⟩, metroRoundNear_j14⟩, metroRoundNear_j15⟩, metroRoundNear_j16⟩, metroRoundNear_j17⟩, metroRoundNear_j18⟩, metroRoundNear_j19⟩, metroRoundNear_j20⟩, metroRoundNear_j21⟩, metroRoundNear_j22⟩, metroRoundNear_j23⟩, metroRatioMakes_j24⟩, metroRatioMakes_j25⟩, metroRoundNear_j26⟩, metroRoundNear_j27⟩, (by kernel_rfl)⟩, metroRoundNear_j29⟩, metroRoundNear_j30⟩, metroRoundNear_j31⟩
end Go.Proofs.YtmibpncmebhbjaaDoor
