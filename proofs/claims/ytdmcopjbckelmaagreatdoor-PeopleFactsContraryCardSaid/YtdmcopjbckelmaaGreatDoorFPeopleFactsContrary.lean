/- peopleFactsContrary: the closed facts that the row's builder asks. -/
import Derived.Test.YtdmcopjbckelmaaGreatDoorZKF
import Derived.Test.YtdmcopjbckelmaaGreatDoorRows
import Derived.JoinedOf
namespace Go.Proofs.YtdmcopjbckelmaaGreatDoor
open Go

theorem peopleFactsContrary_j0 : Rows.peopleFactsContraryRow.wf (OpenSpec.ofChange Rows.peopleFactsContrarySpec) = true := by kernel_rfl
theorem peopleFactsContrary_j3 : Tryz.f5.params.all (Tryz.prog.readableRec ·) = true := by kernel_rfl
theorem peopleFactsContrary_j4 : namedTie Tryz.prog Rows.peopleFactsContraryRow.named Rows.peopleFactsContrarySpec.vars = true := by kernel_rfl
theorem peopleFactsContrary_j5 : (Rows.peopleFactsContraryRow.stops == []) = true := by kernel_rfl
theorem peopleFactsContrary_j7 : (Rows.peopleFactsContraryRow.knobs == []) = true := by kernel_rfl
theorem peopleFactsContrary_j9 : (Rows.peopleFactsContraryRow.inPlace == Tryz.prog.inPlace 5) = true := by kernel_rfl
theorem peopleFactsContrary_j10 : (Rows.peopleFactsContraryRow.unfollowed == Tryz.prog.unfollowed 5) = true := by kernel_rfl
theorem peopleFactsContrary_j11 : (Rows.peopleFactsContraryRow.recurses == Tryz.prog.recurses 5) = true := by kernel_rfl
theorem peopleFactsContrary_j12 : (Rows.peopleFactsContraryRow.named == Tryz.prog.varsNamed 5) = true := by kernel_rfl
theorem peopleFactsContrary_j13 : (Rows.peopleFactsContraryRow.maps == (Tryz.f5.params.toList ++ Rows.peopleFactsContrarySpec.plain.varTypes Tryz.prog).any (Tryz.prog.mapsRec ·)) = true := by kernel_rfl
theorem peopleFactsContrary_j14 : (Rows.peopleFactsContraryRow.ifaces == (Tryz.f5.params.toList ++ Rows.peopleFactsContrarySpec.plain.varTypes Tryz.prog).any (Tryz.prog.ifacesRec ·)) = true := by kernel_rfl
theorem peopleFactsContrary_j15 : (Rows.peopleFactsContraryRow.mapsOut == Tryz.prog.mapsAmong Tryz.f5.resultTypes.toList) = true := by kernel_rfl
theorem peopleFactsContrary_j16 : (Rows.peopleFactsContraryRow.loops == (Tryz.f5.params.toList ++ Rows.peopleFactsContrarySpec.plain.varTypes Tryz.prog).any (Tryz.prog.loopsFrom ·)) = true := by kernel_rfl
theorem peopleFactsContrary_j17 : (Rows.peopleFactsContraryRow.wideKeys == (Tryz.f5.params.toList ++ Rows.peopleFactsContrarySpec.plain.varTypes Tryz.prog ++ Tryz.f5.resultTypes.toList).any (Tryz.prog.wideKeysFrom ·)) = true := by kernel_rfl
theorem peopleFactsContrary_j18 : Rows.peopleFactsContrarySpec.vars.all (Tryz.prog.varReadable ·) = true := by kernel_rfl
theorem peopleFactsContrary_j19 : Tryz.f5.resultTypes.all (fun t => Tryz.prog.readableRec t && decide (t < Tryz.prog.types.size)) = true := by kernel_rfl
theorem peopleFactsContrary_j20 : (Rows.peopleFactsContraryRow.ifacesOut == Tryz.f5.resultTypes.toList.any (Tryz.prog.ifacesRec ·)) = true := by kernel_rfl
theorem peopleFactsContrary_j21 : (Rows.peopleFactsContraryRow.loopsOut == Tryz.f5.resultTypes.toList.any (Tryz.prog.loopsFrom ·)) = true := by kernel_rfl
theorem peopleFactsContrary_j22 : (Rows.peopleFactsContraryRow.plainKeys == Tryz.prog.plainKeys) = true := by kernel_rfl
theorem peopleFactsContrary_j23 : Rows.peopleFactsContraryRow.shortTexts.isNone = true := by kernel_rfl
theorem peopleFactsContrary_j26 : (Rows.peopleFactsContraryRow.lifted == Tryz.prog.liftsFinal) = true := by kernel_rfl
theorem peopleFactsContrary_j27 : (Tryz.prog.make == some Rows.peopleFactsContraryRow.make) = true := by kernel_rfl
theorem peopleFactsContrary_j29 : (Rows.peopleFactsContraryRow.pinned == Rows.peopleFactsContraryRow.pinnedBy) = true := by kernel_rfl
theorem peopleFactsContrary_j30 : (Rows.peopleFactsContraryRow.veiled == (Tryz.f5.params.toList ++ Rows.peopleFactsContrarySpec.plain.varTypes Tryz.prog ++ Tryz.f5.resultTypes.toList).any (Tryz.prog.veiledRec ·)) = true := by kernel_rfl
theorem peopleFactsContrary_j31 : Rows.peopleFactsContraryRow.veiledFits Tryz.prog Tryz.f5.params.toList (Tryz.f5.params.toList ++ Rows.peopleFactsContrarySpec.plain.varTypes Tryz.prog ++ Tryz.f5.resultTypes.toList) = true := by kernel_rfl

set_option maxRecDepth 100000 in
theorem peopleFactsContrary_facts : joinedFacts Tryz.prog 5 Tryz.f5 Rows.peopleFactsContrarySpec Rows.peopleFactsContraryRow = true := by
  unfold joinedFacts
  simp only [Bool.and_eq_true]
  exact ⟨⟨⟨⟨⟨⟨⟨⟨⟨⟨⟨⟨⟨⟨⟨⟨⟨⟨⟨⟨⟨⟨⟨⟨⟨⟨⟨⟨⟨⟨⟨peopleFactsContrary_j0, people_j1⟩, people_j2⟩, peopleFactsContrary_j3⟩, peopleFactsContrary_j4⟩, peopleFactsContrary_j5⟩, people_j6⟩, peopleFactsContrary_j7⟩, people_j8⟩, peopleFactsContrary_j9⟩, peopleFactsContrary_j10⟩, peopleFactsContrary_j11⟩, peopleFactsContrary_j12⟩, peopleFactsContrary_j13⟩, peopleFactsContrary_j14⟩, peopleFactsContrary_j15⟩, peopleFactsContrary_j16⟩, peopleFactsContrary_j17⟩, peopleFactsContrary_j18⟩, peopleFactsContrary_j19⟩, peopleFactsContrary_j20⟩, peopleFactsContrary_j21⟩, peopleFactsContrary_j22⟩, peopleFactsContrary_j23⟩, people_j24⟩, people_j25⟩, peopleFactsContrary_j26⟩, peopleFactsContrary_j27⟩, (by kernel_rfl)⟩, peopleFactsContrary_j29⟩, peopleFactsContrary_j30⟩, peopleFactsContrary_j31⟩
end Go.Proofs.YtdmcopjbckelmaaGreatDoor
