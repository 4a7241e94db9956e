/- peopleDeedsMeet: the closed facts that the row's builder asks. -/
import Derived.Test.YtdmcopjbckelmaaGreatDoorZKF
import Derived.Test.YtdmcopjbckelmaaGreatDoorRows
import Derived.JoinedOf
namespace Go.Proofs.YtdmcopjbckelmaaGreatDoor
open Go

theorem peopleDeedsMeet_j0 : Rows.peopleDeedsMeetRow.wf (OpenSpec.ofChange Rows.peopleDeedsMeetSpec) = true := by kernel_rfl
theorem peopleDeedsMeet_j3 : Tryz.f4.params.all (Tryz.prog.readableRec ·) = true := by kernel_rfl
theorem peopleDeedsMeet_j4 : namedTie Tryz.prog Rows.peopleDeedsMeetRow.named Rows.peopleDeedsMeetSpec.vars = true := by kernel_rfl
theorem peopleDeedsMeet_j5 : (Rows.peopleDeedsMeetRow.stops == []) = true := by kernel_rfl
theorem peopleDeedsMeet_j7 : (Rows.peopleDeedsMeetRow.knobs == []) = true := by kernel_rfl
theorem peopleDeedsMeet_j9 : (Rows.peopleDeedsMeetRow.inPlace == Tryz.prog.inPlace 4) = true := by kernel_rfl
theorem peopleDeedsMeet_j10 : (Rows.peopleDeedsMeetRow.unfollowed == Tryz.prog.unfollowed 4) = true := by kernel_rfl
theorem peopleDeedsMeet_j11 : (Rows.peopleDeedsMeetRow.recurses == Tryz.prog.recurses 4) = true := by kernel_rfl
theorem peopleDeedsMeet_j12 : (Rows.peopleDeedsMeetRow.named == Tryz.prog.varsNamed 4) = true := by kernel_rfl
theorem peopleDeedsMeet_j13 : (Rows.peopleDeedsMeetRow.maps == (Tryz.f4.params.toList ++ Rows.peopleDeedsMeetSpec.plain.varTypes Tryz.prog).any (Tryz.prog.mapsRec ·)) = true := by kernel_rfl
theorem peopleDeedsMeet_j14 : (Rows.peopleDeedsMeetRow.ifaces == (Tryz.f4.params.toList ++ Rows.peopleDeedsMeetSpec.plain.varTypes Tryz.prog).any (Tryz.prog.ifacesRec ·)) = true := by kernel_rfl
theorem peopleDeedsMeet_j15 : (Rows.peopleDeedsMeetRow.mapsOut == Tryz.prog.mapsAmong Tryz.f4.resultTypes.toList) = true := by kernel_rfl
theorem peopleDeedsMeet_j16 : (Rows.peopleDeedsMeetRow.loops == (Tryz.f4.params.toList ++ Rows.peopleDeedsMeetSpec.plain.varTypes Tryz.prog).any (Tryz.prog.loopsFrom ·)) = true := by kernel_rfl
theorem peopleDeedsMeet_j17 : (Rows.peopleDeedsMeetRow.wideKeys == (Tryz.f4.params.toList ++ Rows.peopleDeedsMeetSpec.plain.varTypes Tryz.prog ++ Tryz.f4.resultTypes.toList).any (Tryz.prog.wideKeysFrom ·)) = true := by kernel_rfl
theorem peopleDeedsMeet_j18 : Rows.peopleDeedsMeetSpec.vars.all (Tryz.prog.varReadable ·) = true := by kernel_rfl
theorem peopleDeedsMeet_j19 : Tryz.f4.resultTypes.all (fun t => Tryz.prog.readableRec t && decide (t < Tryz.prog.types.size)) = true := by kernel_rfl
theorem peopleDeedsMeet_j20 : (Rows.peopleDeedsMeetRow.ifacesOut == Tryz.f4.resultTypes.toList.any (Tryz.prog.ifacesRec ·)) = true := by kernel_rfl
theorem peopleDeedsMeet_j21 : (Rows.peopleDeedsMeetRow.loopsOut == Tryz.f4.resultTypes.toList.any (Tryz.prog.loopsFrom ·)) = true := by kernel_rfl
theorem peopleDeedsMeet_j22 : (Rows.peopleDeedsMeetRow.plainKeys == Tryz.prog.plainKeys) = true := by kernel_rfl
theorem peopleDeedsMeet_j23 : Rows.peopleDeedsMeetRow.shortTexts.isNone = true := by kernel_rfl
theorem peopleDeedsMeet_j26 : (Rows.peopleDeedsMeetRow.lifted == Tryz.prog.liftsFinal) = true := by kernel_rfl
theorem peopleDeedsMeet_j27 : (Tryz.prog.make == some Rows.peopleDeedsMeetRow.make) = true := by kernel_rfl
theorem peopleDeedsMeet_j29 : (Rows.peopleDeedsMeetRow.pinned == Rows.peopleDeedsMeetRow.pinnedBy) = true := by kernel_rfl
theorem peopleDeedsMeet_j30 : (Rows.peopleDeedsMeetRow.veiled == (Tryz.f4.params.toList ++ Rows.peopleDeedsMeetSpec.plain.varTypes Tryz.prog ++ Tryz.f4.resultTypes.toList).any (Tryz.prog.veiledRec ·)) = true := by kernel_rfl
theorem peopleDeedsMeet_j31 : Rows.peopleDeedsMeetRow.veiledFits Tryz.prog Tryz.f4.params.toList (Tryz.f4.params.toList ++ Rows.peopleDeedsMeetSpec.plain.varTypes Tryz.prog ++ Tryz.f4.resultTypes.toList) = true := by kernel_rfl

set_option maxRecDepth 100000 in
theorem peopleDeedsMeet_facts : joinedFacts Tryz.prog 4 Tryz.f4 Rows.peopleDeedsMeetSpec Rows.peopleDeedsMeetRow = true := by
  unfold joinedFacts
  simp only [Bool.and_eq_true]
  exact ⟨⟨⟨⟨⟨⟨⟨⟨⟨⟨⟨⟨⟨⟨⟨⟨⟨⟨⟨⟨⟨⟨⟨⟨⟨⟨⟨⟨⟨⟨⟨peopleDeedsMeet_j0, people_j1⟩, people_j2⟩, peopleDeedsMeet_j3⟩, peopleDeedsMeet_j4⟩, peopleDeedsMeet_j5⟩, people_j6⟩, peopleDeedsMeet_j7⟩, people_j8⟩, peopleDeedsMeet_j9⟩, peopleDeedsMeet_j10⟩, peopleDeedsMeet_j11⟩, peopleDeedsMeet_j12⟩, peopleDeedsMeet_j13⟩, peopleDeedsMeet_j14⟩, peopleDeedsMeet_j15⟩, peopleDeedsMeet_j16⟩, peopleDeedsMeet_j17⟩, peopleDeedsMeet_j18⟩, peopleDeedsMeet_j19⟩, peopleDeedsMeet_j20⟩, peopleDeedsMeet_j21⟩, peopleDeedsMeet_j22⟩, peopleDeedsMeet_j23⟩, people_j24⟩, people_j25⟩, peopleDeedsMeet_j26⟩, peopleDeedsMeet_j27⟩, (by kernel_rfl)⟩, peopleDeedsMeet_j29⟩, peopleDeedsMeet_j30⟩, peopleDeedsMeet_j31⟩
end Go.Proofs.YtdmcopjbckelmaaGreatDoor
