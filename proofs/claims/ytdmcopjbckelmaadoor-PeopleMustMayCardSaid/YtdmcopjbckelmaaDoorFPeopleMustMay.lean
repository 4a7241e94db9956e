/- peopleMustMay: the closed facts that the row's builder asks. -/
import Derived.Test.YtdmcopjbckelmaaDoorZKF
import Derived.Test.YtdmcopjbckelmaaDoorRows
import Derived.JoinedOf
namespace Go.Proofs.YtdmcopjbckelmaaDoor
open Go

theorem peopleMustMay_j0 : Rows.peopleMustMayRow.wf (OpenSpec.ofChange Rows.peopleMustMaySpec) = true := by kernel_rfl
theorem peopleMustMay_j3 : Tryd.f7.params.all (Tryd.prog.readableRec ·) = true := by kernel_rfl
theorem peopleMustMay_j4 : namedTie Tryd.prog Rows.peopleMustMayRow.named Rows.peopleMustMaySpec.vars = true := by kernel_rfl
theorem peopleMustMay_j5 : (Rows.peopleMustMayRow.stops == []) = true := by kernel_rfl
theorem peopleMustMay_j7 : (Rows.peopleMustMayRow.knobs == []) = true := by kernel_rfl
theorem peopleMustMay_j9 : (Rows.peopleMustMayRow.inPlace == Tryd.prog.inPlace 7) = true := by kernel_rfl
theorem peopleMustMay_j10 : (Rows.peopleMustMayRow.unfollowed == Tryd.prog.unfollowed 7) = true := by kernel_rfl
theorem peopleMustMay_j11 : (Rows.peopleMustMayRow.recurses == Tryd.prog.recurses 7) = true := by kernel_rfl
theorem peopleMustMay_j12 : (Rows.peopleMustMayRow.named == Tryd.prog.varsNamed 7) = true := by kernel_rfl
theorem peopleMustMay_j13 : (Rows.peopleMustMayRow.maps == (Tryd.f7.params.toList ++ Rows.peopleMustMaySpec.plain.varTypes Tryd.prog).any (Tryd.prog.mapsRec ·)) = true := by kernel_rfl
theorem peopleMustMay_j14 : (Rows.peopleMustMayRow.ifaces == (Tryd.f7.params.toList ++ Rows.peopleMustMaySpec.plain.varTypes Tryd.prog).any (Tryd.prog.ifacesRec ·)) = true := by kernel_rfl
theorem peopleMustMay_j15 : (Rows.peopleMustMayRow.mapsOut == Tryd.prog.mapsAmong Tryd.f7.resultTypes.toList) = true := by kernel_rfl
theorem peopleMustMay_j16 : (Rows.peopleMustMayRow.loops == (Tryd.f7.params.toList ++ Rows.peopleMustMaySpec.plain.varTypes Tryd.prog).any (Tryd.prog.loopsFrom ·)) = true := by kernel_rfl
theorem peopleMustMay_j17 : (Rows.peopleMustMayRow.wideKeys == (Tryd.f7.params.toList ++ Rows.peopleMustMaySpec.plain.varTypes Tryd.prog ++ Tryd.f7.resultTypes.toList).any (Tryd.prog.wideKeysFrom ·)) = true := by kernel_rfl
theorem peopleMustMay_j18 : Rows.peopleMustMaySpec.vars.all (Tryd.prog.varReadable ·) = true := by kernel_rfl
theorem peopleMustMay_j19 : Tryd.f7.resultTypes.all (fun t => Tryd.prog.readableRec t && decide (t < Tryd.prog.types.size)) = true := by kernel_rfl
theorem peopleMustMay_j20 : (Rows.peopleMustMayRow.ifacesOut == Tryd.f7.resultTypes.toList.any (Tryd.prog.ifacesRec ·)) = true := by kernel_rfl
theorem peopleMustMay_j21 : (Rows.peopleMustMayRow.loopsOut == Tryd.f7.resultTypes.toList.any (Tryd.prog.loopsFrom ·)) = true := by kernel_rfl
theorem peopleMustMay_j22 : (Rows.peopleMustMayRow.plainKeys == Tryd.prog.plainKeys) = true := by kernel_rfl
theorem peopleMustMay_j23 : Rows.peopleMustMayRow.shortTexts.isNone = true := by kernel_rfl
theorem peopleMustMay_j26 : (Rows.peopleMustMayRow.lifted == Tryd.prog.liftsFinal) = true := by kernel_rfl
theorem peopleMustMay_j27 : (Tryd.prog.make == some Rows.peopleMustMayRow.make) = true := by kernel_rfl
theorem peopleMustMay_j29 : (Rows.peopleMustMayRow.pinned == Rows.peopleMustMayRow.pinnedBy) = true := by kernel_rfl
theorem peopleMustMay_j30 : (Rows.peopleMustMayRow.veiled == (Tryd.f7.params.toList ++ Rows.peopleMustMaySpec.plain.varTypes Tryd.prog ++ Tryd.f7.resultTypes.toList).any (Tryd.prog.veiledRec ·)) = true := by kernel_rfl
theorem peopleMustMay_j31 : Rows.peopleMustMayRow.veiledFits Tryd.prog Tryd.f7.params.toList (Tryd.f7.params.toList ++ Rows.peopleMustMaySpec.plain.varTypes Tryd.prog ++ Tryd.f7.resultTypes.toList) = true := by kernel_rfl

set_option maxRecDepth 100000 in
theorem peopleMustMay_facts : joinedFacts Tryd.prog 7 Tryd.f7 Rows.peopleMustMaySpec Rows.peopleMustMayRow = true := by
  unfold joinedFacts
  simp only [Bool.and_eq_true]
  exact ⟨⟨⟨⟨⟨⟨⟨⟨⟨⟨⟨⟨⟨⟨⟨⟨⟨⟨⟨⟨⟨⟨⟨⟨⟨⟨⟨⟨⟨⟨⟨peopleMustMay_j0, people_j1⟩, people_j2⟩, peopleMustMay_j3⟩, peopleMustMay_j4⟩, peopleMustMay_j5⟩, people_j6⟩, peopleMustMay_j7⟩, people_j8⟩, peopleMustMay_j9⟩, peopleMustMay_j10⟩, peopleMustMay_j11⟩, peopleMustMay_j12⟩, peopleMustMay_j13⟩, peopleMustMay_j14⟩, peopleMustMay_j15⟩, peopleMustMay_j16⟩, peopleMustMay_j17⟩, peopleMustMay_j18⟩, peopleMustMay_j19⟩, peopleMustMay_j20⟩, peopleMustMay_j21⟩, peopleMustMay_j22⟩, peopleMustMay_j23⟩, people_j24⟩, people_j25⟩, peopleMustMay_j26⟩, peopleMustMay_j27⟩, (by kernel_rfl)⟩, peopleMustMay_j29⟩, peopleMustMay_j30⟩, peopleMustMay_j31⟩
end Go.Proofs.YtdmcopjbckelmaaDoor
