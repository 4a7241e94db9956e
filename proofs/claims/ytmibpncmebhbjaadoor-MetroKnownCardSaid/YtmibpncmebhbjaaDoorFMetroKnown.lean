/- metroKnown: the closed facts that the row's builder asks. -/
import Derived.Test.YtmibpncmebhbjaaDoorP12
import Derived.Test.YtmibpncmebhbjaaDoorRows
import Derived.JoinedOf
namespace Go.Proofs.YtmibpncmebhbjaaDoor
open Go

theorem metroKnown_j0 : Rows.metroKnownRow.wf (OpenSpec.ofChange Rows.metroKnownSpec) = true := by kernel_rfl
theorem metroKnown_j3 : Tryd.f20.params.all (Tryd.prog.readableRec ·) = true := by kernel_rfl
theorem metroKnown_j4 : namedTie Tryd.prog Rows.metroKnownRow.named Rows.metroKnownSpec.vars = true := by kernel_rfl
theorem metroKnown_j5 : (Rows.metroKnownRow.stops == []) = true := by kernel_rfl
theorem metroKnown_j7 : (Rows.metroKnownRow.knobs == []) = true := by kernel_rfl
theorem metroKnown_j9 : (Rows.metroKnownRow.inPlace == Tryd.prog.inPlace 20) = true := by kernel_rfl
theorem metroKnown_j10 : (Rows.metroKnownRow.unfollowed == Tryd.prog.unfollowed 20) = true := by kernel_rfl
theorem metroKnown_j11 : (Rows.metroKnownRow.recurses == Tryd.prog.recurses 20) = true := by kernel_rfl
theorem metroKnown_j12 : (Rows.metroKnownRow.named == Tryd.prog.varsNamed 20) = true := by kernel_rfl
theorem metroKnown_j13 : (Rows.metroKnownRow.maps == (Tryd.f20.params.toList ++ Rows.metroKnownSpec.plain.varTypes Tryd.prog).any (Tryd.prog.mapsRec ·)) = true := by kernel_rfl
theorem metroKnown_j14 : (Rows.metroKnownRow.ifaces == (Tryd.f20.params.toList ++ Rows.metroKnownSpec.plain.varTypes Tryd.prog).any (Tryd.prog.ifacesRec ·)) = true := by kernel_rfl
theorem metroKnown_j15 : (Rows.metroKnownRow.mapsOut == Tryd.prog.mapsAmong Tryd.f20.resultTypes.toList) = true := by kernel_rfl
theorem metroKnown_j16 : (Rows.metroKnownRow.loops == (Tryd.f20.params.toList ++ Rows.metroKnownSpec.plain.varTypes Tryd.prog).any (Tryd.prog.loopsFrom ·)) = true := by kernel_rfl
theorem metroKnown_j17 : (Rows.metroKnownRow.wideKeys == (Tryd.f20.params.toList ++ Rows.metroKnownSpec.plain.varTypes Tryd.prog ++ Tryd.f20.resultTypes.toList).any (Tryd.prog.wideKeysFrom ·)) = true := by kernel_rfl
theorem metroKnown_j18 : Rows.metroKnownSpec.vars.all (Tryd.prog.varReadable ·) = true := by kernel_rfl
theorem metroKnown_j19 : Tryd.f20.resultTypes.all (fun t => Tryd.prog.readableRec t && decide (t < Tryd.prog.types.size)) = true := by kernel_rfl
theorem metroKnown_j20 : (Rows.metroKnownRow.ifacesOut == Tryd.f20.resultTypes.toList.any (Tryd.prog.ifacesRec ·)) = true := by kernel_rfl
theorem metroKnown_j21 : (Rows.metroKnownRow.loopsOut == Tryd.f20.resultTypes.toList.any (Tryd.prog.loopsFrom ·)) = true := by kernel_rfl
theorem metroKnown_j22 : (Rows.metroKnownRow.plainKeys == Tryd.prog.plainKeys) = true := by kernel_rfl
theorem metroKnown_j23 : Rows.metroKnownRow.shortTexts.isNone = true := by kernel_rfl
theorem metroKnown_j26 : (Rows.metroKnownRow.lifted == Tryd.prog.liftsFinal) = true := by kernel_rfl
theorem metroKnown_j27 : (Tryd.prog.make == some Rows.metroKnownRow.make) = true := by kernel_rfl
theorem metroKnown_j29 : (Rows.metroKnownRow.pinned == Rows.metroKnownRow.pinnedBy) = true := by kernel_rfl
theorem metroKnown_j30 : (Rows.metroKnownRow.veiled == (Tryd.f20.params.toList ++ Rows.metroKnownSpec.plain.varTypes Tryd.prog ++ Tryd.f20.resultTypes.toList).any (Tryd.prog.veiledRec ·)) = true := by kernel_rfl
theorem metroKnown_j31 : Rows.metroKnownRow.veiledFits Tryd.prog Tryd.f20.params.toList (Tryd.f20.params.toList ++ Rows.metroKnownSpec.plain.varTypes Tryd.prog ++ Tryd.f20.resultTypes.toList) = true := by kernel_rfl

set_option maxRecDepth 100000 in
theorem metroKnown_facts : joinedFacts Tryd.prog 20 Tryd.f20 Rows.metroKnownSpec Rows.metroKnownRow = true := by
  unfold joinedFacts
  simp only [Bool.and_eq_true]
  exact ⟨⟨⟨⟨⟨⟨⟨⟨⟨⟨⟨⟨⟨⟨⟨⟨⟨⟨⟨⟨⟨⟨⟨⟨⟨⟨⟨⟨⟨⟨⟨metroKnown_j0, metroRatioMakes_j1⟩, metroRatioMakes_j2⟩, metroKnown_j3⟩, metroKnown_j4⟩, metroKnown_j5⟩, metroRatioMakes_j6⟩, metroKnown_j7⟩, metroRatioMakes_j8⟩, metroKnown_j9⟩, metroKnown_j10⟩, metroKnown_j11⟩, metroKnown_j12⟩, metroKnown_j13⟩, metroKnown_j14⟩, metroKnown_j15⟩, metroKnown_j16⟩, metroKnown_j17⟩, metroKnown_j18⟩, metroKnown_j19⟩, metroKnown_j20⟩, metroKnown_j21⟩, metroKnown_j22⟩, metroKnown_j23⟩, metroRatioMakes_j24⟩, metroRatioMakes_j25⟩, metroKnown_j26⟩, metroKnown_j27⟩, (by kernel_rfl)⟩, metroKnown_j29⟩, metroKnown_j30⟩, metroKnown_j31⟩
end Go.Proofs.YtmibpncmebhbjaaDoor
