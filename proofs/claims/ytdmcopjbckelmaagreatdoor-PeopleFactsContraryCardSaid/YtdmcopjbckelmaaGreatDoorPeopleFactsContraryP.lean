/- PeopleFactsContrary returns true for every input, in every memory in which the package variable zero of the package metro holds what the program's text lays in it. Conditions: that listed variable alone. -/
import Derived.Test.YtdmcopjbckelmaaGreatDoorZV15
import Derived.Test.YtdmcopjbckelmaaGreatDoorZO4
import Derived.Test.YtdmcopjbckelmaaGreatDoorZK
import Derived.Test.YtdmcopjbckelmaaGreatDoorFPeopleFactsContrary
import Derived.Test.YtdmcopjbckelmaaGreatDoorTie
import Derived.Test.YtdmcopjbckelmaaGreatDoorCards
import Derived.SevenTiedAt
import Derived.ChangeMaps5
import Derived.Carry
namespace Go.Proofs.YtdmcopjbckelmaaGreatDoor
open Go Go.ChangeShapes Go.WideShapes Go.ChangeAt Go.WideMaps Go.WideElems Go.RowKit

set_option maxRecDepth 100000 in
theorem peopleFactsContrary_lifted (os : Os) (started : os.Started) (H : Type) (enc : TypeId × Value → H) :
    ReturnsInHanded {} Tryz.checked os 5 .any (fun w args => (Rows.peopleFactsContrarySpec.pre enc Tryz.prog Tryz.f5 [] false w args ∧ laidMetH Tryz.prog laidZ w) ∧ sizedMet enc Tryz.prog Tryz.f5 (OpenSpec.ofChange Rows.peopleFactsContrarySpec) false w args)
      (Rows.peopleFactsContrarySpec.post enc Tryz.prog Tryz.f5 false true false false) := by
  refine returnsInHanded_of_change_and (C := Tryz.checked) (X := fun w _ => laidMetH Tryz.prog laidZ w) (fun _ _ _ hh h => h.of_heap hh) own started (by kernel_rfl) Tryz.func5
    (ChangeSpec.witness_shaped (enc := enc) (C := Tryz.checked) (os := os) (X := fun w _ => laidMetH Tryz.prog laidZ w) false (World.doorLaid Tryz.prog 400 os) #[.agg #[.slice none 0 0, .slice none 0 0], .int .i64 1, .slice none 0 0] 8 rfl (World.shaped_of_RefB (by kernel_rfl) (by kernel_rfl)) (by kernel_rfl) (by kernel_rfl) (by kernel_rfl) (door_met os _)) ?_
  intro W base args ds gs before hval0 hW _ hwt hL _
  have hz := of_laid hL
  have hval : ∀ (j : Nat) t v, Tryz.f5.params[j]? = some t → args[j]? = some v → Value.okWide Tryz.prog W .any base t v := hval0
  have hW' := hW
  obtain ⟨p, q, hA0, hV, rfl, hfz, hnd⟩ := hW
  have hA : DataW.TrodAll enc Tryz.prog W 0 (fun _ => true) true Tryz.f5.params.toList args.toList ds p := hA0
  rw [Tryz.params5] at hA hval hwt
  obtain ⟨v0, v1, v2, d0, d1, d2, p0, p1, p2, rfl, rfl, rfl, h0, h1, h2⟩ := trodAll_three hA
  obtain ⟨rfl, rfl⟩ := trodVars_none hV
  have hwt' : (DataW.weightsEach Tryz.prog [25, 3, 47] [d0, d1, d2]).all (· ≤ reachBytes) = true := hwt
  simp only [DataW.weightsEach, List.all_append, Bool.and_eq_true] at hwt'
  obtain ⟨g0, g1, g2, _⟩ := hwt'
  simp only [List.append_nil] at hW'
  have hk0 := h0
  have hlt0 : ∀ x ∈ p0, x.block < W.heap.size := fun x hx => hW'.lt x (by simp [hx])
  have hk2 := h2
  have hlt2 : ∀ x ∈ p2, x.block < W.heap.size := fun x hx => hW'.lt x (by simp [hx])
  obtain ⟨A0, a0, c0, F0, m0, k0, ps0, fs0, rfl, hn0, hs0, hf0, hw0⟩ := open_net (hval 0 25 v0 rfl rfl) h0
  obtain ⟨n1, rfl, rfl, rfl, w1⟩ := open_int Tryz.underlying3 (hval 1 3 v1 rfl rfl) h1
  have b1 : -9223372036854775808 ≤ n1 ∧ n1 ≤ 9223372036854775807 := by
    simp only [Lit.wf, Bool.and_eq_true, decide_eq_true_eq] at w1
    exact w1
  obtain ⟨l2, A2, c2, rfl, hs2, hb2⟩ := open_intl (hval 2 47 v2 rfl rfl) h2
  clear hA0 hval0
  refine (factsContrary_all A0 a0 c0 F0 m0 k0 n1 l2 A2 c2 ps0 fs0 W hn0 hs0 hs2 hz (hw0 g0) (hb2.2 g2)).mono fun e W' ⟨he, hb⟩ => ?_
  subst he
  exact ⟨_, rfl, _, _, _, [], _, [], hW', trodAll_mk1 (shut_bool Tryz.underlying4 _), trodAll_mk3 (Below.trod people_j1 (by kernel_rfl) (of_decide_eq_true (by kernel_rfl)) hk0 hb hlt0) (shut_int Tryz.underlying3 w1) (Below.trod people_j1 (by kernel_rfl) (of_decide_eq_true (by kernel_rfl)) hk2 hb hlt2), rfl, hb.frame _, fun h => by cases h⟩

theorem peopleFactsContrary_named : Tryz.prog.funcNamed "bulla/bullalaw10.PeopleFactsContrary" = some 5 := by kernel_rfl
theorem peopleFactsContrary_said : Rows.PeopleFactsContrarySaid :=
  OpenClaim.holds_of_wide 5 Tryz.f5 rfl rfl rfl rfl rfl rfl rfl ⟨rfl, rfl, rfl, rfl, rfl⟩ rfl rfl rfl rfl rfl peopleFactsContrary_named Tryz.func5 peopleFactsContrary_facts
    (of_decide_eq_true (by kernel_rfl)) (by unfold Func.isWrapper; first | (rw [if_pos (by decide +kernel)]; kernel_rfl) | (rw [if_neg (by decide +kernel)]; exact ⟨rfl, rfl⟩))
    (fun os started H enc _ => peopleFactsContrary_lifted os started H enc)
theorem peopleFactsContrary_stand : ([25, 3, 47].all fun u => !Tryz.prog.wantsStandIn u) = true := by kernel_rfl
theorem peopleFactsContrary_wf : Rows.peopleFactsContraryRow.wfByText (OpenSpec.ofChange Rows.peopleFactsContrarySpec) = true := by kernel_rfl
theorem peopleFactsContrary_goes : false = Rows.peopleFactsContraryRow.goesBy Tryz.prog := by kernel_rfl

theorem peopleFactsContrary_holds : Rows.PeopleFactsContraryCardSaid :=
  Claim7.holds_tied_plain_at .later [] [.data] true (true, "fc9df83ae5ae594bf27bb4da61373a51c620c849ebaf90019e4fb7ebb6289732") false
    peopleFactsContrary_said (fun _ h => by cases h) peopleFactsContrary_wf (fun _ h => by cases h) peopleFactsContrary_row_tie rfl ⟨rfl, rfl⟩ main_is rfl
    (fun f fn hf hfn => by
      obtain rfl : f = 5 := (Option.some.inj (peopleFactsContrary_named.symm.trans hf)).symm
      obtain rfl : fn = Tryz.f5 := (Option.some.inj (Tryz.func5.symm.trans hfn)).symm
      exact ⟨no_looks, fun j t ht => by
        rw [Tryz.params5] at ht
        have hm : t ∈ ([25, 3, 47] : List TypeId) := by simpa using Array.mem_of_getElem? ht
        exact (show Tryz.prog.wantsStandIn t = false by simpa using List.all_eq_true.1 peopleFactsContrary_stand t hm)⟩)
    peopleFactsContrary_goes
#print axioms peopleFactsContrary_holds
end Go.Proofs.YtdmcopjbckelmaaGreatDoor
