/- peopleDeedsLive: the closed facts that the row's builder asks. -/
import Derived.Test.YtdmcopjbckelmaaGreatDoorZKF
import Derived.Test.YtdmcopjbckelmaaGreatDoorRows
import Derived.JoinedOf
namespace Go.Proofs.YtdmcopjbckelmaaGreatDoor
open Go

theorem peopleDeedsLive_j0 : Rows.peopleDeedsLiveRow.wf (OpenSpec.ofChange Rows.peopleDeedsLiveSpec) = true := by kernel_rfl
theorem peopleDeedsLive_j3 : Tryz.f7.params.all (Tryz.prog.readableRec ·) = true := by kernel_rfl
theorem peopleDeedsLive_j4 : namedTie Tryz.prog Rows.peopleDeedsLiveRow.named Rows.peopleDeedsLiveSpec.vars = true := by kernel_rfl
theorem peopleDeedsLive_j5 : (Rows.peopleDeedsLiveRow.stops == []) = true := by kernel_rfl
theorem peopleDeedsLive_j7 : (Rows.peopleDeedsLiveRow.knobs == []) = true := by kernel_rfl
theorem peopleDeedsLive_j9 : (Rows.peopleDeedsLiveRow.inPlace == Tryz.prog.inPlace 7) = true := by kernel_rfl
theorem peopleDeedsLive_j10 : (Rows.peopleDeedsLiveRow.unfollowed == Tryz.prog.unfollowed 7) = true := by kernel_rfl
theorem peopleDeedsLive_j11 : (Rows.peopleDeedsLiveRow.recurses == Tryz.prog.recurses 7) = true := by kernel_rfl
theorem peopleDeedsLive_j12 : (Rows.peopleDeedsLiveRow.named == Tryz.prog.varsNamed 7) = true := by kernel_rfl
theorem peopleDeedsLive_j13 : (Rows.peopleDeedsLiveRow.maps == (Tryz.f7.params.toList ++ Rows.peopleDeedsLiveSpec.plain.varTypes Tryz.prog).any (Tryz.prog.mapsRec ·)) = true := by kernel_rfl
theorem peopleDeedsLive_j14 : (Rows.peopleDeedsLiveRow.ifaces == (Tryz.f7.params.toList ++ Rows.peopleDeedsLiveSpec.plain.varTypes Tryz.prog).any (Tryz.prog.ifacesRec ·)) = true := by kernel_rfl
theorem peopleDeedsLive_j15 : (Rows.peopleDeedsLiveRow.mapsOut == Tryz.prog.mapsAmong Tryz.f7.resultTypes.toList) = true := by kernel_rfl
theorem peopleDeedsLive_j16 : (Rows.peopleDeedsLiveRow.loops == (Tryz.f7.params.toList ++ Rows.peopleDeedsLiveSpec.plain.varTypes Tryz.prog).any (Tryz.prog.loopsFrom ·)) = true := by kernel_rfl
theorem peopleDeedsLive_j17 : (Rows.peopleDeedsLiveRow.wideKeys == (Tryz.f7.params.toList ++ Rows.peopleDeedsLiveSpec.plain.varTypes Tryz.prog ++ Tryz.f7.resultTypes.toList).any (Tryz.prog.wideKeysFrom ·)) = true := by kernel_rfl
theorem peopleDeedsLive_j18 : Rows.peopleDeedsLiveSpec.vars.all (Tryz.prog.varReadable ·) = true := by kernel_rfl
theorem peopleDeedsLive_j19 : Tryz.f7.resultTypes.all (fun t => Tryz.prog.readableRec t && decide (t < Tryz.prog.types.size)) = true := by kernel_rfl
theorem peopleDeedsLive_j20 : (Rows.peopleDeedsLiveRow.ifacesOut == Tryz.f7.resultTypes.toList.any (Tryz.prog.ifacesRec ·)) = true := by kernel_rfl
theorem peopleDeedsLive_j21 : (Rows.peopleDeedsLiveRow.loopsOut == Tryz.f7.resultTypes.toList.any (Tryz.prog.loopsFrom ·)) = true := by kernel_rfl
theorem peopleDeedsLive_j22 : (Rows.peopleDeedsLiveRow.plainKeys == Tryz.prog.plainKeys) = true := by kernel_rfl
theorem peopleDeedsLive_j23 : Rows.peopleDeedsLiveRow.shortTexts.isNone = true := by kernel_rfl
theorem peopleDeedsLive_j26 : (Rows.peopleDeedsLiveRow.lifted == Tryz.prog.liftsFinal) = true := by kernel_rfl
theorem peopleDeedsLive_j27 : (Tryz.prog.make == some Rows.peopleDeedsLiveRow.make) = true := by kernel_rfl
theorem peopleDeedsLive_j29 : (Rows.peopleDeedsLiveRow.pinned == Rows.peopleDeedsLiveRow.pinnedBy) = true := by kernel_rfl
theorem peopleDeedsLive_j30 : (Rows.peopleDeedsLiveRow.veiled == (Tryz.f7.params.toList ++ Rows.peopleDeedsLiveSpec.plain.varTypes Tryz.prog ++ Tryz.f7.resultTypes.toList).any (Tryz.prog.veiledRec ·)) = true := by kernel_rfl
theorem peopleDeedsLive_j31 : Rows.peopleDeedsLiveRow.veiledFits Tryz.prog Tryz.f7.params.toList (Tryz.f7.params.toList ++ Rows.peopleDeedsLiveSpec.plain.varTypes Tryz.prog ++ Tryz.f7.resultTypes.toList) = true := by kernel_rfl

set_option maxRecDepth 100000 in
theorem peopleDeedsLive_facts : joinedFacts Tryz.prog 7 Tryz.f7 Rows.peopleDeedsLiveSpec Rows.peopleDeedsLiveRow = true := by
  unfold joinedFacts
  simp only [Bool.and_eq_true]
  exact ⟨⟨⟨⟨⟨⟨⟨⟨⟨⟨⟨⟨⟨⟨⟨⟨⟨⟨⟨⟨⟨⟨⟨⟨⟨⟨⟨⟨⟨⟨⟨peopleDeedsLive_j0, people_j1⟩, people_j2⟩, peopleDeedsLive_j3⟩, peopleDeedsLive_j4⟩, peopleDeedsLive_j5⟩, people_j6⟩, peopleDeedsLive_j7⟩, people_j8⟩, peopleDeedsLive_j9⟩, peopleDeedsLive_j10⟩, peopleDeedsLive_j11⟩, peopleDeedsLive_j12⟩, peopleDeedsLive_j13⟩, peopleDeedsLive_j14⟩, peopleDeedsLive_j15⟩, peopleDeedsLive_j16⟩, peopleDeedsLive_j17⟩, peopleDeedsLive_j18⟩, peopleDeedsLive_j19⟩, peopleDeedsLive_j20⟩, peopleDeedsLive_j21⟩, peopleDeedsLive_j22⟩, peopleDeedsLive_j23⟩, people_j24⟩, people_j25⟩, peopleDeedsLive_j26⟩, peopleDeedsLive_j27⟩, (by kernel_rfl)⟩, peopleDeedsLive_j29⟩, peopleDeedsLive_j30⟩, peopleDeedsLive_j31⟩
end Go.Proofs.YtdmcopjbckelmaaGreatDoor
