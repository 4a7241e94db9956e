/- metroRatioOrder: the closed facts that the row's builder asks. -/
import Derived.Test.YtmibpncmebhbjaaDoorP12
import Derived.Test.YtmibpncmebhbjaaDoorRows
import Derived.JoinedOf
namespace Go.Proofs.YtmibpncmebhbjaaDoor
open Go

theorem metroRatioOrder_j0 : Rows.metroRatioOrderRow.wf (OpenSpec.ofChange Rows.metroRatioOrderSpec) = true := by kernel_rfl
theorem metroRatioOrder_j3 : Tryd.f7.params.all (Tryd.prog.readableRec ·) = true := by kernel_rfl
theorem metroRatioOrder_j4 : namedTie Tryd.prog Rows.metroRatioOrderRow.named Rows.metroRatioOrderSpec.vars = true := by kernel_rfl
theorem metroRatioOrder_j5 : (Rows.metroRatioOrderRow.stops == []) = true := by kernel_rfl
theorem metroRatioOrder_j7 : (Rows.metroRatioOrderRow.knobs == []) = true := by kernel_rfl
theorem metroRatioOrder_j9 : (Rows.metroRatioOrderRow.inPlace == Tryd.prog.inPlace 7) = true := by kernel_rfl
theorem metroRatioOrder_j10 : (Rows.metroRatioOrderRow.unfollowed == Tryd.prog.unfollowed 7) = true := by kernel_rfl
theorem metroRatioOrder_j11 : (Rows.metroRatioOrderRow.recurses == Tryd.prog.recurses 7) = true := by kernel_rfl
theorem metroRatioOrder_j12 : (Rows.metroRatioOrderRow.named == Tryd.prog.varsNamed 7) = true := by kernel_rfl
theorem metroRatioOrder_j13 : (Rows.metroRatioOrderRow.maps == (Tryd.f7.params.toList ++ Rows.metroRatioOrderSpec.plain.varTypes Tryd.prog).any (Tryd.prog.mapsRec ·)) = true := by kernel_rfl
theorem metroRatioOrder_j14 : (Rows.metroRatioOrderRow.ifaces == (Tryd.f7.params.toList ++ Rows.metroRatioOrderSpec.plain.varTypes Tryd.prog).any (Tryd.prog.ifacesRec ·)) = true := by kernel_rfl
theorem metroRatioOrder_j15 : (Rows.metroRatioOrderRow.mapsOut == Tryd.prog.mapsAmong Tryd.f7.resultTypes.toList) = true := by kernel_rfl
theorem metroRatioOrder_j16 : (Rows.metroRatioOrderRow.loops == (Tryd.f7.params.toList ++ Rows.metroRatioOrderSpec.plain.varTypes Tryd.prog).any (Tryd.prog.loopsFrom ·)) = true := by kernel_rfl
theorem metroRatioOrder_j17 : (Rows.metroRatioOrderRow.wideKeys == (Tryd.f7.params.toList ++ Rows.metroRatioOrderSpec.plain.varTypes Tryd.prog ++ Tryd.f7.resultTypes.toList).any (Tryd.prog.wideKeysFrom ·)) = true := by kernel_rfl
theorem metroRatioOrder_j18 : Rows.metroRatioOrderSpec.vars.all (Tryd.prog.varReadable ·) = true := by kernel_rfl
theorem metroRatioOrder_j19 : Tryd.f7.resultTypes.all (fun t => Tryd.prog.readableRec t && decide (t < Tryd.prog.types.size)) = true := by kernel_rfl
theorem metroRatioOrder_j20 : (Rows.metroRatioOrderRow.ifacesOut == Tryd.f7.resultTypes.toList.any (Tryd.prog.ifacesRec ·)) = true := by kernel_rfl
theorem metroRatioOrder_j21 : (Rows.metroRatioOrderRow.loopsOut == Tryd.f7.resultTypes.toList.any (Tryd.prog.loopsFrom ·)) = true := by kernel_rfl
theorem metroRatioOrder_j22 : (Rows.metroRatioOrderRow.plainKeys == Tryd.prog.plainKeys) = true := by kernel_rfl
theorem metroRatioOrder_j23 : Rows.metroRatioOrderRow.shortTexts.isNone = true := by kernel_rfl
theorem metroRatioOrder_j26 : (Rows.metroRatioOrderRow.lifted == Tryd.prog.liftsFinal) = true := by kernel_rfl
theorem metroRatioOrder_j27 : (Tryd.prog.make == some Rows.metroRatioOrderRow.make) = true := by kernel_rfl
theorem metroRatioOrder_j29 : (Rows.metroRatioOrderRow.pinned == Rows.metroRatioOrderRow.pinnedBy) = true := by kernel_rfl
theorem metroRatioOrder_j30 : (Rows.metroRatioOrderRow.veiled == (Tryd.f7.params.toList ++ Rows.metroRatioOrderSpec.plain.varTypes Tryd.prog ++ Tryd.f7.resultTypes.toList).any (Tryd.prog.veiledRec ·)) = true := by kernel_rfl
theorem metroRatioOrder_j31 : Rows.metroRatioOrderRow.veiledFits Tryd.prog Tryd.f7.params.toList (Tryd.f7.params.toList ++ Rows.metroRatioOrderSpec.plain.varTypes Tryd.prog ++ Tryd.f7.resultTypes.toList) = true := by kernel_rfl

set_option maxRecDepth 100000 in
theorem metroRatioOrder_facts : joinedFacts Tryd.prog 7 Tryd.f7 Rows.metroRatioOrderSpec Rows.metroRatioOrderRow = true := by
  unfold joinedFacts
  simp only [Bool.and_eq_true]
  exact ⟨⟨⟨⟨⟨⟨⟨⟨⟨⟨⟨⟨⟨⟨⟨⟨⟨⟨⟨⟨⟨⟨⟨⟨⟨⟨⟨⟨⟨⟨⟨metroRatioOrder_j0, metroRatioMakes_j1⟩, metroRatioMakes_j2⟩, metroRatioOrder_j3⟩, metroRatioOrder_j4⟩, metroRatioOrder_j5⟩, metroRatioMakes_j6⟩, metroRatioOrder_j7⟩, metroRatioMakes_j8⟩, metroRatioOrder_j9⟩, metroRatioOrder_j10⟩, metroRatioOrder_j11⟩, metroRatioOrder_j12⟩, metroRatioOrder_j13⟩, metroRatioOrder_j14⟩, metroRatioOrder_j15⟩, metroRatioOrder_j16⟩, metroRatioOrder_j17⟩, metroRatioOrder_j18⟩, metroRatioOrder_j19⟩, metroRatioOrder_j20⟩, metroRatioOrder_j21⟩, metroRatioOrder_j22⟩, metroRatioOrder_j23⟩, metroRatioMakes_j24⟩, metroRatioMakes_j25⟩, metroRatioOrder_j26⟩, metroRatioOrder_j27⟩, (by kernel_rfl)⟩, metroRatioOrder_j29⟩, metroRatioOrder_j30⟩, metroRatioOrder_j31⟩
end Go.Proofs.YtmibpncmebhbjaaDoor
