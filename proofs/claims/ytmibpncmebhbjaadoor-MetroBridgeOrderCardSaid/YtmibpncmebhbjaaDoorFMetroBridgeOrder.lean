/- metroBridgeOrder: the closed facts that the row's builder asks. -/
import Derived.Test.YtmibpncmebhbjaaDoorP12
import Derived.Test.YtmibpncmebhbjaaDoorRows
import Derived.JoinedOf
namespace Go.Proofs.YtmibpncmebhbjaaDoor
open Go

theorem metroBridgeOrder_j0 : Rows.metroBridgeOrderRow.wf (OpenSpec.ofChange Rows.metroBridgeOrderSpec) = true := by kernel_rfl
theorem metroBridgeOrder_j3 : Tryd.f9.params.all (Tryd.prog.readableRec ·) = true := by kernel_rfl
theorem metroBridgeOrder_j4 : namedTie Tryd.prog Rows.metroBridgeOrderRow.named Rows.metroBridgeOrderSpec.vars = true := by kernel_rfl
theorem metroBridgeOrder_j5 : (Rows.metroBridgeOrderRow.stops == []) = true := by kernel_rfl
theorem metroBridgeOrder_j7 : (Rows.metroBridgeOrderRow.knobs == []) = true := by kernel_rfl
theorem metroBridgeOrder_j9 : (Rows.metroBridgeOrderRow.inPlace == Tryd.prog.inPlace 9) = true := by kernel_rfl
theorem metroBridgeOrder_j10 : (Rows.metroBridgeOrderRow.unfollowed == Tryd.prog.unfollowed 9) = true := by kernel_rfl
theorem metroBridgeOrder_j11 : (Rows.metroBridgeOrderRow.recurses == Tryd.prog.recurses 9) = true := by kernel_rfl
theorem metroBridgeOrder_j12 : (Rows.metroBridgeOrderRow.named == Tryd.prog.varsNamed 9) = true := by kernel_rfl
theorem metroBridgeOrder_j13 : (Rows.metroBridgeOrderRow.maps == (Tryd.f9.params.toList ++ Rows.metroBridgeOrderSpec.plain.varTypes Tryd.prog).any (Tryd.prog.mapsRec ·)) = true := by kernel_rfl
theorem metroBridgeOrder_j14 : (Rows.metroBridgeOrderRow.ifaces == (Tryd.f9.params.toList ++ Rows.metroBridgeOrderSpec.plain.varTypes Tryd.prog).any (Tryd.prog.ifacesRec ·)) = true := by kernel_rfl
theorem metroBridgeOrder_j15 : (Rows.metroBridgeOrderRow.mapsOut == Tryd.prog.mapsAmong Tryd.f9.resultTypes.toList) = true := by kernel_rfl
theorem metroBridgeOrder_j16 : (Rows.metroBridgeOrderRow.loops == (Tryd.f9.params.toList ++ Rows.metroBridgeOrderSpec.plain.varTypes Tryd.prog).any (Tryd.prog.loopsFrom ·)) = true := by kernel_rfl
theorem metroBridgeOrder_j17 : (Rows.metroBridgeOrderRow.wideKeys == (Tryd.f9.params.toList ++ Rows.metroBridgeOrderSpec.plain.varTypes Tryd.prog ++ Tryd.f9.resultTypes.toList).any (Tryd.prog.wideKeysFrom ·)) = true := by kernel_rfl
theorem metroBridgeOrder_j18 : Rows.metroBridgeOrderSpec.vars.all (Tryd.prog.varReadable ·) = true := by kernel_rfl
theorem metroBridgeOrder_j19 : Tryd.f9.resultTypes.all (fun t => Tryd.prog.readableRec t && decide (t < Tryd.prog.types.size)) = true := by kernel_rfl
theorem metroBridgeOrder_j20 : (Rows.metroBridgeOrderRow.ifacesOut == Tryd.f9.resultTypes.toList.any (Tryd.prog.ifacesRec ·)) = true := by kernel_rfl
theorem metroBridgeOrder_j21 : (Rows.metroBridgeOrderRow.loopsOut == Tryd.f9.resultTypes.toList.any (Tryd.prog.loopsFrom ·)) = true := by kernel_rfl
theorem metroBridgeOrder_j22 : (Rows.metroBridgeOrderRow.plainKeys == Tryd.prog.plainKeys) = true := by kernel_rfl
theorem metroBridgeOrder_j23 : Rows.metroBridgeOrderRow.shortTexts.isNone = true := by kernel_rfl
theorem metroBridgeOrder_j26 : (Rows.metroBridgeOrderRow.lifted == Tryd.prog.liftsFinal) = true := by kernel_rfl
theorem metroBridgeOrder_j27 : (Tryd.prog.make == some Rows.metroBridgeOrderRow.make) = true := by kernel_rfl
theorem metroBridgeOrder_j29 : (Rows.metroBridgeOrderRow.pinned == Rows.metroBridgeOrderRow.pinnedBy) = true := by kernel_rfl
theorem metroBridgeOrder_j30 : (Rows.metroBridgeOrderRow.veiled == (Tryd.f9.params.toList ++ Rows.metroBridgeOrderSpec.plain.varTypes Tryd.prog ++ Tryd.f9.resultTypes.toList).any (Tryd.prog.veiledRec ·)) = true := by kernel_rfl
theorem metroBridgeOrder_j31 : Rows.metroBridgeOrderRow.veiledFits Tryd.prog Tryd.f9.params.toList (Tryd.f9.params.toList ++ Rows.metroBridgeOrderSpec.plain.varTypes Tryd.prog ++ Tryd.f9.resultTypes.toList) = true := by kernel_rfl

set_option maxRecDepth 100000 in
theorem metroBridgeOrder_facts : joinedFacts Tryd.prog 9 Tryd.f9 Rows.metroBridgeOrderSpec Rows.metroBridgeOrderRow = true := by
  unfold joinedFacts
  simp only [Bool.and_eq_true]
  exact ⟨⟨⟨⟨⟨⟨⟨⟨⟨⟨⟨⟨⟨⟨⟨⟨⟨⟨⟨⟨⟨⟨⟨⟨⟨⟨⟨⟨⟨⟨⟨metroBridgeOrder_j0, metroRatioMakes_j1⟩, metroRatioMakes_j2⟩, metroBridgeOrder_j3⟩, metroBridgeOrder_j4⟩, metroBridgeOrder_j5⟩, metroRatioMakes_j6⟩, metroBridgeOrder_j7⟩, metroRatioMakes_j8⟩, metroBridgeOrder_j9⟩, metroBridgeOrder_j10⟩, metroBridgeOrder_j11⟩, metroBridgeOrder_j12⟩, metroBridgeOrder_j13⟩, metroBridgeOrder_j14⟩, metroBridgeOrder_j15⟩, metroBridgeOrder_j16⟩, metroBridgeOrder_j17⟩, metroBridgeOrder_j18⟩, metroBridgeOrder_j19⟩, metroBridgeOrder_j20⟩, metroBridgeOrder_j21⟩, metroBridgeOrder_j22⟩, metroBridgeOrder_j23⟩, metroRatioMakes_j24⟩, metroRatioMakes_j25⟩, metroBridgeOrder_j26⟩, metroBridgeOrder_j27⟩, (by kernel_rfl)⟩, metroBridgeOrder_j29⟩, metroBridgeOrder_j30⟩, metroBridgeOrder_j31⟩
end Go.Proofs.YtmibpncmebhbjaaDoor
