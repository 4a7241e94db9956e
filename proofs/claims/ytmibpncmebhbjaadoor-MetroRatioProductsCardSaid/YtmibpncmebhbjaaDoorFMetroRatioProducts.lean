/- metroRatioProducts: the closed facts that the row's builder asks. -/
import Derived.Test.YtmibpncmebhbjaaDoorP12
import Derived.Test.YtmibpncmebhbjaaDoorRows
import Derived.JoinedOf
namespace Go.Proofs.YtmibpncmebhbjaaDoor
open Go

theorem metroRatioProducts_j0 : Rows.metroRatioProductsRow.wf (OpenSpec.ofChange Rows.metroRatioProductsSpec) = true := by kernel_rfl
theorem metroRatioProducts_j3 : Tryd.f12.params.all (Tryd.prog.readableRec ·) = true := by kernel_rfl
theorem metroRatioProducts_j4 : namedTie Tryd.prog Rows.metroRatioProductsRow.named Rows.metroRatioProductsSpec.vars = true := by kernel_rfl
theorem metroRatioProducts_j5 : (Rows.metroRatioProductsRow.stops == []) = true := by kernel_rfl
theorem metroRatioProducts_j7 : (Rows.metroRatioProductsRow.knobs == []) = true := by kernel_rfl
theorem metroRatioProducts_j9 : (Rows.metroRatioProductsRow.inPlace == Tryd.prog.inPlace 12) = true := by kernel_rfl
theorem metroRatioProducts_j10 : (Rows.metroRatioProductsRow.unfollowed == Tryd.prog.unfollowed 12) = true := by kernel_rfl
theorem metroRatioProducts_j11 : (Rows.metroRatioProductsRow.recurses == Tryd.prog.recurses 12) = true := by kernel_rfl
theorem metroRatioProducts_j12 : (Rows.metroRatioProductsRow.named == Tryd.prog.varsNamed 12) = true := by kernel_rfl
theorem metroRatioProducts_j13 : (Rows.metroRatioProductsRow.maps == (Tryd.f12.params.toList ++ Rows.metroRatioProductsSpec.plain.varTypes Tryd.prog).any (Tryd.prog.mapsRec ·)) = true := by kernel_rfl
theorem metroRatioProducts_j14 : (Rows.metroRatioProductsRow.ifaces == (Tryd.f12.params.toList ++ Rows.metroRatioProductsSpec.plain.varTypes Tryd.prog).any (Tryd.prog.ifacesRec ·)) = true := by kernel_rfl
theorem metroRatioProducts_j15 : (Rows.metroRatioProductsRow.mapsOut == Tryd.prog.mapsAmong Tryd.f12.resultTypes.toList) = true := by kernel_rfl
theorem metroRatioProducts_j16 : (Rows.metroRatioProductsRow.loops == (Tryd.f12.params.toList ++ Rows.metroRatioProductsSpec.plain.varTypes Tryd.prog).any (Tryd.prog.loopsFrom ·)) = true := by kernel_rfl
theorem metroRatioProducts_j17 : (Rows.metroRatioProductsRow.wideKeys == (Tryd.f12.params.toList ++ Rows.metroRatioProductsSpec.plain.varTypes Tryd.prog ++ Tryd.f12.resultTypes.toList).any (Tryd.prog.wideKeysFrom ·)) = true := by kernel_rfl
theorem metroRatioProducts_j18 : Rows.metroRatioProductsSpec.vars.all (Tryd.prog.varReadable ·) = true := by kernel_rfl
theorem metroRatioProducts_j19 : Tryd.f12.resultTypes.all (fun t => Tryd.prog.readableRec t && decide (t < Tryd.prog.types.size)) = true := by kernel_rfl
theorem metroRatioProducts_j20 : (Rows.metroRatioProductsRow.ifacesOut == Tryd.f12.resultTypes.toList.any (Tryd.prog.ifacesRec ·)) = true := by kernel_rfl
theorem metroRatioProducts_j21 : (Rows.metroRatioProductsRow.loopsOut == Tryd.f12.resultTypes.toList.any (Tryd.prog.loopsFrom ·)) = true := by kernel_rfl
theorem metroRatioProducts_j22 : (Rows.metroRatioProductsRow.plainKeys == Tryd.prog.plainKeys) = true := by kernel_rfl
theorem metroRatioProducts_j23 : Rows.metroRatioProductsRow.shortTexts.isNone = true := by kernel_rfl
theorem metroRatioProducts_j26 : (Rows.metroRatioProductsRow.lifted == Tryd.prog.liftsFinal) = true := by kernel_rfl
theorem metroRatioProducts_j27 : (Tryd.prog.make == some Rows.metroRatioProductsRow.make) = true := by kernel_rfl
theorem metroRatioProducts_j29 : (Rows.metroRatioProductsRow.pinned == Rows.metroRatioProductsRow.pinnedBy) = true := by kernel_rfl
theorem metroRatioProducts_j30 : (Rows.metroRatioProductsRow.veiled == (Tryd.f12.params.toList ++ Rows.metroRatioProductsSpec.plain.varTypes Tryd.prog ++ Tryd.f12.resultTypes.toList).any (Tryd.prog.veiledRec ·)) = true := by kernel_rfl
theorem metroRatioProducts_j31 : Rows.metroRatioProductsRow.veiledFits Tryd.prog Tryd.f12.params.toList (Tryd.f12.params.toList ++ Rows.metroRatioProductsSpec.plain.varTypes Tryd.prog ++ Tryd.f12.resultTypes.toList) = true := by kernel_rfl

set_option maxRecDepth 100000 in
theorem metroRatioProducts_facts : joinedFacts Tryd.prog 12 Tryd.f12 Rows.metroRatioProductsSpec Rows.metroRatioProductsRow = true := by
  unfold joinedFacts
  simp only [Bool.and_eq_true]
  exact ⟨⟨⟨⟨⟨⟨⟨⟨⟨⟨⟨⟨⟨⟨⟨⟨⟨⟨⟨⟨⟨⟨⟨⟨⟨⟨⟨⟨⟨⟨⟨metroRatioProducts_j0, metroRatioMakes_j1⟩, metroRatioMakes_j2⟩, metroRatioProducts_j3⟩, metroRatioProducts_j4⟩, metroRatioProducts_j5⟩, metroRatioMakes_j6⟩, metroRatioProducts_j7⟩, metroRatioMakes_j8⟩, metroRatioProducts_j9⟩, metroRatioProducts_j10⟩, metroRatioProducts_j11⟩, metroRatioProducts_j12⟩, metroRatioProducts_j13⟩, metroRatioProducts_j14⟩, metroRatioProducts_j15⟩, metroRatioProducts_j16⟩, metroRatioProducts_j17⟩, metroRatioProducts_j18⟩, metroRatioProducts_j19⟩, metroRatioProducts_j20⟩, metroRatioProducts_j21⟩, metroRatioProducts_j22⟩, metroRatioProducts_j23⟩, metroRatioMakes_j24⟩, metroRatioMakes_j25⟩, metroRatioProducts_j26⟩, metroRatioProducts_j27⟩, (by kernel_rfl)⟩, metroRatioProducts_j29⟩, metroRatioProducts_j30⟩, metroRatioProducts_j31⟩
end Go.Proofs.YtmibpncmebhbjaaDoor
