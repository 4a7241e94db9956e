/- metroConvertAgree: the closed facts that the row's builder asks. -/
import Derived.Test.YtmibpncmebhbjaaDoorP12
import Derived.Test.YtmibpncmebhbjaaDoorRows
import Derived.JoinedOf
namespace Go.Proofs.YtmibpncmebhbjaaDoor
open Go

theorem metroConvertAgree_j0 : Rows.metroConvertAgreeRow.wf (OpenSpec.ofChange Rows.metroConvertAgreeSpec) = true := by kernel_rfl
theorem metroConvertAgree_j3 : Tryd.f11.params.all (Tryd.prog.readableRec ·) = true := by kernel_rfl
theorem metroConvertAgree_j4 : namedTie Tryd.prog Rows.metroConvertAgreeRow.named Rows.metroConvertAgreeSpec.vars = true := by kernel_rfl
theorem metroConvertAgree_j5 : (Rows.metroConvertAgreeRow.stops == []) = true := by kernel_rfl
theorem metroConvertAgree_j7 : (Rows.metroConvertAgreeRow.knobs == []) = true := by kernel_rfl
theorem metroConvertAgree_j9 : (Rows.metroConvertAgreeRow.inPlace == Tryd.prog.inPlace 11) = true := by kernel_rfl
theorem metroConvertAgree_j10 : (Rows.metroConvertAgreeRow.unfollowed == Tryd.prog.unfollowed 11) = true := by kernel_rfl
theorem metroConvertAgree_j11 : (Rows.metroConvertAgreeRow.recurses == Tryd.prog.recurses 11) = true := by kernel_rfl
theorem metroConvertAgree_j12 : (Rows.metroConvertAgreeRow.named == Tryd.prog.varsNamed 11) = true := by kernel_rfl
theorem metroConvertAgree_j13 : (Rows.metroConvertAgreeRow.maps == (Tryd.f11.params.toList ++ Rows.metroConvertAgreeSpec.plain.varTypes Tryd.prog).any (Tryd.prog.mapsRec ·)) = true := by kernel_rfl
theorem metroConvertAgree_j14 : (Rows.metroConvertAgreeRow.ifaces == (Tryd.f11.params.toList ++ Rows.metroConvertAgreeSpec.plain.varTypes Tryd.prog).any (Tryd.prog.ifacesRec ·)) = true := by kernel_rfl
theorem metroConvertAgree_j15 : (Rows.metroConvertAgreeRow.mapsOut == Tryd.prog.mapsAmong Tryd.f11.resultTypes.toList) = true := by kernel_rfl
theorem metroConvertAgree_j16 : (Rows.metroConvertAgreeRow.loops == (Tryd.f11.params.toList ++ Rows.metroConvertAgreeSpec.plain.varTypes Tryd.prog).any (Tryd.prog.loopsFrom ·)) = true := by kernel_rfl
theorem metroConvertAgree_j17 : (Rows.metroConvertAgreeRow.wideKeys == (Tryd.f11.params.toList ++ Rows.metroConvertAgreeSpec.plain.varTypes Tryd.prog ++ Tryd.f11.resultTypes.toList).any (Tryd.prog.wideKeysFrom ·)) = true := by kernel_rfl
theorem metroConvertAgree_j18 : Rows.metroConvertAgreeSpec.vars.all (Tryd.prog.varReadable ·) = true := by kernel_rfl
theorem metroConvertAgree_j19 : Tryd.f11.resultTypes.all (fun t => Tryd.prog.readableRec t && decide (t < Tryd.prog.types.size)) = true := by kernel_rfl
theorem metroConvertAgree_j20 : (Rows.metroConvertAgreeRow.ifacesOut == Tryd.f11.resultTypes.toList.any (Tryd.prog.ifacesRec ·)) = true := by kernel_rfl
theorem metroConvertAgree_j21 : (Rows.metroConvertAgreeRow.loopsOut == Tryd.f11.resultTypes.toList.any (Tryd.prog.loopsFrom ·)) = true := by kernel_rfl
theorem metroConvertAgree_j22 : (Rows.metroConvertAgreeRow.plainKeys == Tryd.prog.plainKeys) = true := by kernel_rfl
theorem metroConvertAgree_j23 : Rows.metroConvertAgreeRow.shortTexts.isNone = true := by kernel_rfl
theorem metroConvertAgree_j26 : (Rows.metroConvertAgreeRow.lifted == Tryd.prog.liftsFinal) = true := by kernel_rfl
theorem metroConvertAgree_j27 : (Tryd.prog.make == some Rows.metroConvertAgreeRow.make) = true := by kernel_rfl
theorem metroConvertAgree_j29 : (Rows.metroConvertAgreeRow.pinned == Rows.metroConvertAgreeRow.pinnedBy) = true := by kernel_rfl
theorem metroConvertAgree_j30 : (Rows.metroConvertAgreeRow.veiled == (Tryd.f11.params.toList ++ Rows.metroConvertAgreeSpec.plain.varTypes Tryd.prog ++ Tryd.f11.resultTypes.toList).any (Tryd.prog.veiledRec ·)) = true := by kernel_rfl
theorem metroConvertAgree_j31 : Rows.metroConvertAgreeRow.veiledFits Tryd.prog Tryd.f11.params.toList (Tryd.f11.params.toList ++ Rows.metroConvertAgreeSpec.plain.varTypes Tryd.prog ++ Tryd.f11.resultTypes.toList) = true := by kernel_rfl

set_option maxRecDepth 100000 in
theorem metroConvertAgree_facts : joinedFacts Tryd.prog 11 Tryd.f11 Rows.metroConvertAgreeSpec Rows.metroConvertAgreeRow = true := by
  unfold joinedFacts
  simp only [Bool.and_eq_true]
  exact ⟨⟨⟨⟨⟨⟨⟨⟨⟨⟨⟨⟨⟨⟨⟨⟨⟨⟨⟨⟨⟨⟨⟨⟨⟨⟨⟨⟨⟨⟨⟨metroConvertAgree_j0, metroRatioMakes_j1⟩, metroRatioMakes_j2⟩, metroConvertAgree_j3⟩, metroConvertAgree_j4⟩, metroConvertAgree_j5⟩, metroRatioMakes_j6⟩, metroConvertAgree_j7⟩, metroRatioMakes_j8⟩, metroConvertAgree_j9⟩, metroConvertAgree_j10⟩, metroConvertAgree_j11⟩, metroConvertAgree_j12⟩, metroConvertAgree_j13⟩, metroConvertAgree_j14⟩, metroConvertAgree_j15⟩, metroConvertAgree_j16⟩, metroConvertAgree_j17⟩, metroConvertAgree_j18⟩, metroConvertAgree_j19⟩, metroConvertAgree_j20⟩, metroConvertAgree_j21⟩, metroConvertAgree_j22⟩, metroConvertAgree_j23⟩, metroRatioMakes_j24⟩, metroRatioMakes_j25⟩, metroConvertAgree_j26⟩, metroConvertAgree_j27⟩, (by kernel_rfl)⟩, metroConvertAgree_j29⟩, metroConvertAgree_j30⟩, metroConvertAgree_j31⟩
end Go.Proofs.YtmibpncmebhbjaaDoor
