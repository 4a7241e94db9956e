/- metroRatioProductOrder: the closed facts that the row's builder asks. -/
import Derived.Test.YtmibpncmebhbjaaDoorP12
import Derived.Test.YtmibpncmebhbjaaDoorRows
import Derived.JoinedOf
namespace Go.Proofs.YtmibpncmebhbjaaDoor
open Go

theorem metroRatioProductOrder_j0 : Rows.metroRatioProductOrderRow.wf (OpenSpec.ofChange Rows.metroRatioProductOrderSpec) = true := by kernel_rfl
theorem metroRatioProductOrder_j3 : Tryd.f13.params.all (Tryd.prog.readableRec ·) = true := by kernel_rfl
theorem metroRatioProductOrder_j4 : namedTie Tryd.prog Rows.metroRatioProductOrderRow.named Rows.metroRatioProductOrderSpec.vars = true := by kernel_rfl
theorem metroRatioProductOrder_j5 : (Rows.metroRatioProductOrderRow.stops == []) = true := by kernel_rfl
theorem metroRatioProductOrder_j7 : (Rows.metroRatioProductOrderRow.knobs == []) = true := by kernel_rfl
theorem metroRatioProductOrder_j9 : (Rows.metroRatioProductOrderRow.inPlace == Tryd.prog.inPlace 13) = true := by kernel_rfl
theorem metroRatioProductOrder_j10 : (Rows.metroRatioProductOrderRow.unfollowed == Tryd.prog.unfollowed 13) = true := by kernel_rfl
theorem metroRatioProductOrder_j11 : (Rows.metroRatioProductOrderRow.recurses == Tryd.prog.recurses 13) = true := by kernel_rfl
theorem metroRatioProductOrder_j12 : (Rows.metroRatioProductOrderRow.named == Tryd.prog.varsNamed 13) = true := by kernel_rfl
theorem metroRatioProductOrder_j13 : (Rows.metroRatioProductOrderRow.maps == (Tryd.f13.params.toList ++ Rows.metroRatioProductOrderSpec.plain.varTypes Tryd.prog).any (Tryd.prog.mapsRec ·)) = true := by kernel_rfl
theorem metroRatioProductOrder_j14 : (Rows.metroRatioProductOrderRow.ifaces == (Tryd.f13.params.toList ++ Rows.metroRatioProductOrderSpec.plain.varTypes Tryd.prog).any (Tryd.prog.ifacesRec ·)) = true := by kernel_rfl
theorem metroRatioProductOrder_j15 : (Rows.metroRatioProductOrderRow.mapsOut == Tryd.prog.mapsAmong Tryd.f13.resultTypes.toList) = true := by kernel_rfl
theorem metroRatioProductOrder_j16 : (Rows.metroRatioProductOrderRow.loops == (Tryd.f13.params.toList ++ Rows.metroRatioProductOrderSpec.plain.varTypes Tryd.prog).any (Tryd.prog.loopsFrom ·)) = true := by kernel_rfl
theorem metroRatioProductOrder_j17 : (Rows.metroRatioProductOrderRow.wideKeys == (Tryd.f13.params.toList ++ Rows.metroRatioProductOrderSpec.plain.varTypes Tryd.prog ++ Tryd.f13.resultTypes.toList).any (Tryd.prog.wideKeysFrom ·)) = true := by kernel_rfl
theorem metroRatioProductOrder_j18 : Rows.metroRatioProductOrderSpec.vars.all (Tryd.prog.varReadable ·) = true := by kernel_rfl
theorem metroRatioProductOrder_j19 : Tryd.f13.resultTypes.all (fun t => Tryd.prog.readableRec t && decide (t < Tryd.prog.types.size)) = true := by kernel_rfl
theorem metroRatioProductOrder_j20 : (Rows.metroRatioProductOrderRow.ifacesOut == Tryd.f13.resultTypes.toList.any (Tryd.prog.ifacesRec ·)) = true := by kernel_rfl
theorem metroRatioProductOrder_j21 : (Rows.metroRatioProductOrderRow.loopsOut == Tryd.f13.resultTypes.toList.any (Tryd.prog.loopsFrom ·)) = true := by kernel_rfl
theorem metroRatioProductOrder_j22 : (Rows.metroRatioProductOrderRow.plainKeys == Tryd.prog.plainKeys) = true := by kernel_rfl
theorem metroRatioProductOrder_j23 : Rows.metroRatioProductOrderRow.shortTexts.isNone = true := by kernel_rfl
theorem metroRatioProductOrder_j26 : (Rows.metroRatioProductOrderRow.lifted == Tryd.prog.liftsFinal) = true := by kernel_rfl
theorem metroRatioProductOrder_j27 : (Tryd.prog.make == some Rows.metroRatioProductOrderRow.make) = true := by kernel_rfl
theorem metroRatioProductOrder_j29 : (Rows.metroRatioProductOrderRow.pinned == Rows.metroRatioProductOrderRow.pinnedBy) = true := by kernel_rfl
theorem metroRatioProductOrder_j30 : (Rows.metroRatioProductOrderRow.veiled == (Tryd.f13.params.toList ++ Rows.metroRatioProductOrderSpec.plain.varTypes Tryd.prog ++ Tryd.f13.resultTypes.toList).any (Tryd.prog.veiledRec ·)) = true := by kernel_rfl
theorem metroRatioProductOrder_j31 : Rows.metroRatioProductOrderRow.veiledFits Tryd.prog Tryd.f13.params.toList (Tryd.f13.params.toList ++ Rows.metroRatioProductOrderSpec.plain.varTypes Tryd.prog ++ Tryd.f13.resultTypes.toList) = true := by kernel_rfl

set_option maxRecDepth 100000 in
theorem metroRatioProductOrder_facts : joinedFacts Tryd.prog 13 Tryd.f13 Rows.metroRatioProductOrderSpec Rows.metroRatioProductOrderRow = true := by
  unfold joinedFacts
  simp only [Bool.and_eq_true]
  exact ⟨⟨⟨⟨⟨⟨⟨⟨⟨⟨⟨⟨⟨⟨⟨⟨⟨⟨⟨⟨⟨⟨⟨⟨⟨⟨⟨⟨⟨⟨⟨metroRatioProductOrder_j0, metroRatioMakes_j1⟩, metroRatioMakes_j2⟩, metroRatioProductOrder_j3⟩, metroRatioProductOrder_j4⟩, metroRatioProductOrder_j5⟩, metroRatioMakes_j6⟩, metroRatioProductOrder_j7⟩, metroRatioMakes_j8⟩, metroRatioProductOrder_j9⟩, metroRatioProductOrder_j10⟩, metroRatioProductOrder_j11⟩, metroRatioProductOrder_j12⟩, metroRatioProductOrder_j13⟩, metroRatioProductOrder_j14⟩, metroRatioProductOrder_j15⟩, metroRatioProductOrder_j16⟩, metroRatioProductOrder_j17⟩, metroRatioProductOrder_j18⟩, metroRatioProductOrder_j19⟩, metroRatioProductOrder_j20⟩, metroRatioProductOrder_j21⟩, metroRatioProductOrder_j22⟩, metroRatioProductOrder_j23⟩, metroRatioMakes_j24⟩, metroRatioMakes_j25⟩, metroRatioProductOrder_j26⟩, metroRatioProductOrder_j27⟩, (by kernel_rfl)⟩, metroRatioProductOrder_j29⟩, metroRatioProductOrder_j30⟩, metroRatioProductOrder_j31⟩
end Go.Proofs.YtmibpncmebhbjaaDoor
