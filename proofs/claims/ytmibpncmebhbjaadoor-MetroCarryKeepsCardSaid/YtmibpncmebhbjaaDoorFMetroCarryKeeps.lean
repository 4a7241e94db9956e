/- metroCarryKeeps: the closed facts that the row's builder asks. -/
import Derived.Test.YtmibpncmebhbjaaDoorP12
import Derived.Test.YtmibpncmebhbjaaDoorRows
import Derived.JoinedOf
namespace Go.Proofs.YtmibpncmebhbjaaDoor
open Go

theorem metroCarryKeeps_j0 : Rows.metroCarryKeepsRow.wf (OpenSpec.ofChange Rows.metroCarryKeepsSpec) = true := by kernel_rfl
theorem metroCarryKeeps_j3 : Tryd.f18.params.all (Tryd.prog.readableRec ·) = true := by kernel_rfl
theorem metroCarryKeeps_j4 : namedTie Tryd.prog Rows.metroCarryKeepsRow.named Rows.metroCarryKeepsSpec.vars = true := by kernel_rfl
theorem metroCarryKeeps_j5 : (Rows.metroCarryKeepsRow.stops == []) = true := by kernel_rfl
theorem metroCarryKeeps_j7 : (Rows.metroCarryKeepsRow.knobs == []) = true := by kernel_rfl
theorem metroCarryKeeps_j9 : (Rows.metroCarryKeepsRow.inPlace == Tryd.prog.inPlace 18) = true := by kernel_rfl
theorem metroCarryKeeps_j10 : (Rows.metroCarryKeepsRow.unfollowed == Tryd.prog.unfollowed 18) = true := by kernel_rfl
theorem metroCarryKeeps_j11 : (Rows.metroCarryKeepsRow.recurses == Tryd.prog.recurses 18) = true := by kernel_rfl
theorem metroCarryKeeps_j12 : (Rows.metroCarryKeepsRow.named == Tryd.prog.varsNamed 18) = true := by kernel_rfl
theorem metroCarryKeeps_j13 : (Rows.metroCarryKeepsRow.maps == (Tryd.f18.params.toList ++ Rows.metroCarryKeepsSpec.plain.varTypes Tryd.prog).any (Tryd.prog.mapsRec ·)) = true := by kernel_rfl
theorem metroCarryKeeps_j14 : (Rows.metroCarryKeepsRow.ifaces == (Tryd.f18.params.toList ++ Rows.metroCarryKeepsSpec.plain.varTypes Tryd.prog).any (Tryd.prog.ifacesRec ·)) = true := by kernel_rfl
theorem metroCarryKeeps_j15 : (Rows.metroCarryKeepsRow.mapsOut == Tryd.prog.mapsAmong Tryd.f18.resultTypes.toList) = true := by kernel_rfl
theorem metroCarryKeeps_j16 : (Rows.metroCarryKeepsRow.loops == (Tryd.f18.params.toList ++ Rows.metroCarryKeepsSpec.plain.varTypes Tryd.prog).any (Tryd.prog.loopsFrom ·)) = true := by kernel_rfl
theorem metroCarryKeeps_j17 : (Rows.metroCarryKeepsRow.wideKeys == (Tryd.f18.params.toList ++ Rows.metroCarryKeepsSpec.plain.varTypes Tryd.prog ++ Tryd.f18.resultTypes.toList).any (Tryd.prog.wideKeysFrom ·)) = true := by kernel_rfl
theorem metroCarryKeeps_j18 : Rows.metroCarryKeepsSpec.vars.all (Tryd.prog.varReadable ·) = true := by kernel_rfl
theorem metroCarryKeeps_j19 : Tryd.f18.resultTypes.all (fun t => Tryd.prog.readableRec t && decide (t < Tryd.prog.types.size)) = true := by kernel_rfl
theorem metroCarryKeeps_j20 : (Rows.metroCarryKeepsRow.ifacesOut == Tryd.f18.resultTypes.toList.any (Tryd.prog.ifacesRec ·)) = true := by kernel_rfl
theorem metroCarryKeeps_j21 : (Rows.metroCarryKeepsRow.loopsOut == Tryd.f18.resultTypes.toList.any (Tryd.prog.loopsFrom ·)) = true := by kernel_rfl
theorem metroCarryKeeps_j22 : (Rows.metroCarryKeepsRow.plainKeys == Tryd.prog.plainKeys) = true := by kernel_rfl
theorem metroCarryKeeps_j23 : Rows.metroCarryKeepsRow.shortTexts.isNone = true := by kernel_rfl
theorem metroCarryKeeps_j26 : (Rows.metroCarryKeepsRow.lifted == Tryd.prog.liftsFinal) = true := by kernel_rfl
theorem metroCarryKeeps_j27 : (Tryd.prog.make == some Rows.metroCarryKeepsRow.make) = true := by kernel_rfl
theorem metroCarryKeeps_j29 : (Rows.metroCarryKeepsRow.pinned == Rows.metroCarryKeepsRow.pinnedBy) = true := by kernel_rfl
theorem metroCarryKeeps_j30 : (Rows.metroCarryKeepsRow.veiled == (Tryd.f18.params.toList ++ Rows.metroCarryKeepsSpec.plain.varTypes Tryd.prog ++ Tryd.f18.resultTypes.toList).any (Tryd.prog.veiledRec ·)) = true := by kernel_rfl
theorem metroCarryKeeps_j31 : Rows.metroCarryKeepsRow.veiledFits Tryd.prog Tryd.f18.params.toList (Tryd.f18.params.toList ++ Rows.metroCarryKeepsSpec.plain.varTypes Tryd.prog ++ Tryd.f18.resultTypes.toList) = true := by kernel_rfl

set_option maxRecDepth 100000 in
theorem metroCarryKeeps_facts : joinedFacts Tryd.prog 18 Tryd.f18 Rows.metroCarryKeepsSpec Rows.metroCarryKeepsRow = true := by
  unfold joinedFacts
  simp only [Bool.and_eq_true]
  exact ⟨⟨⟨⟨⟨⟨⟨⟨⟨⟨⟨⟨⟨⟨⟨⟨⟨⟨⟨⟨⟨⟨⟨⟨⟨⟨⟨⟨⟨⟨⟨metroCarryKeeps_j0, metroRatioMakes_j1⟩, metroRatioMakes_j2⟩, metroCarryKeeps_j3⟩, metroCarryKeeps_j4⟩, metroCarryKeeps_j5⟩, metroRatioMakes_j6⟩, metroCarryKeeps_j7⟩, metroRatioMakes_j8⟩, metroCarryKeeps_j9⟩, metroCarryKeeps_j10⟩, metroCarryKeeps_j11⟩, metroCarryKeeps_j12⟩, metroCarryKeeps_j13⟩, metroCarryKeeps_j14⟩, metroCarryKeeps_j15⟩, metroCarryKeeps_j16⟩, metroCarryKeeps_j17⟩, metroCarryKeeps_j18⟩, metroCarryKeeps_j19⟩, metroCarryKeeps_j20⟩, metroCarryKeeps_j21⟩, metroCarryKeeps_j22⟩, metroCarryKeeps_j23⟩, metroRatioMakes_j24⟩, metroRatioMakes_j25⟩, metroCarryKeeps_j26⟩, metroCarryKeeps_j27⟩, (by kernel_rfl)⟩, metroCarryKeeps_j29⟩, metroCarryKeeps_j30⟩, metroCarryKeeps_j31⟩
end Go.Proofs.YtmibpncmebhbjaaDoor
