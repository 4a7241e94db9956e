/- PeopleChainMeets returns true for every input, in every memory in which the package variable zero of the package metro holds what the program's text lays in it. Conditions: that listed variable alone. -/
import Derived.Test.YtdmcopjbckelmaaDoorZV9
import Derived.Test.YtdmcopjbckelmaaDoorZO5
import Derived.Test.YtdmcopjbckelmaaDoorZK
import Derived.Test.YtdmcopjbckelmaaDoorFPeopleChainMeets
import Derived.Test.YtdmcopjbckelmaaDoorTie
import Derived.Test.YtdmcopjbckelmaaDoorCards
import Derived.SevenTiedAt
import Derived.ChangeMaps5
import Derived.Carry
namespace Go.Proofs.YtdmcopjbckelmaaDoor
open Go Go.ChangeShapes Go.WideShapes Go.ChangeAt Go.WideMaps Go.WideElems Go.RowKit

set_option maxRecDepth 100000 in
theorem peopleChainMeets_lifted (os : Os) (started : os.Started) (H : Type) (enc : TypeId × Value → H) :
    ReturnsInHanded {} Tryd.checked os 10 .any (fun w args => (Rows.peopleChainMeetsSpec.pre enc Tryd.prog Tryd.f10 [] false w args ∧ laidMetH Tryd.prog laidZ w) ∧ sizedMet enc Tryd.prog Tryd.f10 (OpenSpec.ofChange Rows.peopleChainMeetsSpec) false w args)
      (Rows.peopleChainMeetsSpec.post enc Tryd.prog Tryd.f10 false true false false) := by
  refine returnsInHanded_of_change_and (C := Tryd.checked) (X := fun w _ => laidMetH Tryd.prog laidZ w) (fun _ _ _ hh h => h.of_heap hh) own started (by kernel_rfl) Tryd.func10
    (ChangeSpec.witness_shaped (enc := enc) (C := Tryd.checked) (os := os) (X := fun w _ => laidMetH Tryd.prog laidZ w) false (World.doorLaid Tryd.prog 400 os) #[.slice none 0 0, .string ⟨#[]⟩, .string ⟨#[]⟩] 8 rfl (World.shaped_of_RefB (by kernel_rfl) (by kernel_rfl)) (by kernel_rfl) (by kernel_rfl) (by kernel_rfl) (door_met os _)) ?_
  intro W base args ds gs before hval0 hW _ hwt hL _
  have hz := of_laid hL
  have hval : ∀ (j : Nat) t v, Tryd.f10.params[j]? = some t → args[j]? = some v → Value.okWide Tryd.prog W .any base t v := hval0
  have hW' := hW
  obtain ⟨p, q, hA0, hV, rfl, hfz, hnd⟩ := hW
  have hA : DataW.TrodAll enc Tryd.prog W 0 (fun _ => true) true Tryd.f10.params.toList args.toList ds p := hA0
  rw [Tryd.params10] at hA hval hwt
  obtain ⟨v0, v1, v2, d0, d1, d2, p0, p1, p2, rfl, rfl, rfl, h0, h1, h2⟩ := trodAll_three hA
  obtain ⟨rfl, rfl⟩ := trodVars_none hV
  have hwt' : (DataW.weightsEach Tryd.prog [59, 9, 9] [d0, d1, d2]).all (· ≤ reachBytes) = true := hwt
  simp only [DataW.weightsEach, List.all_append, Bool.and_eq_true] at hwt'
  obtain ⟨g0, g1, g2, _⟩ := hwt'
  simp only [List.append_nil] at hW'
  have hk0 := h0
  have hlt0 : ∀ x ∈ p0, x.block < W.heap.size := fun x hx => hW'.lt x (by simp [hx])
  obtain ⟨ds0, hd0, hs0, hb0⟩ := open_deeds (hval 0 59 v0 rfl rfl) h0
  obtain ⟨s1, rfl, rfl, rfl, w1⟩ := ChangeMaps.open_string Tryd.underlying9 (hval 1 9 v1 rfl rfl) h1
  have b1 : (s1.size : Int) ≤ 9223372036854775807 := by unfold maxLen at w1; omega
  obtain ⟨s2, rfl, rfl, rfl, w2⟩ := ChangeMaps.open_string Tryd.underlying9 (hval 2 9 v2 rfl rfl) h2
  have b2 : (s2.size : Int) ≤ 9223372036854775807 := by unfold maxLen at w2; omega
  clear hA0 hval0
  refine (chainMeets_all v0 s1 s2 ds0 W hd0 hs0 hz).mono fun e W' ⟨he, hb⟩ => ?_
  subst he
  exact ⟨_, rfl, _, _, _, [], _, [], hW', trodAll_mk1 (shut_bool Tryd.underlying4 _), trodAll_mk3 (Below.trod people_j1 (by kernel_rfl) (of_decide_eq_true (by kernel_rfl)) hk0 hb hlt0) (ChangeMaps.shut_string Tryd.underlying9 w1) (ChangeMaps.shut_string Tryd.underlying9 w2), rfl, hb.frame _, fun h => by cases h⟩

theorem peopleChainMeets_named : Tryd.prog.funcNamed "bulla/bullalaw10.PeopleChainMeets" = some 10 := by kernel_rfl
theorem peopleChainMeets_said : Rows.PeopleChainMeetsSaid :=
  OpenClaim.holds_of_wide 10 Tryd.f10 rfl rfl rfl rfl rfl rfl rfl ⟨rfl, rfl, rfl, rfl, rfl⟩ rfl rfl rfl rfl rfl peopleChainMeets_named Tryd.func10 peopleChainMeets_facts
    (of_decide_eq_true (by kernel_rfl)) (by unfold Func.isWrapper; first | (rw [if_pos (by decide +kernel)]; kernel_rfl) | (rw [if_neg (by decide +kernel)]; exact ⟨rfl, rfl⟩))
    (fun os started H enc _ => peopleChainMeets_lifted os started H enc)
theorem peopleChainMeets_stand : ([59, 9, 9].all fun u => !Tryd.prog.wantsStandIn u) = true := by kernel_rfl
theorem peopleChainMeets_wf : Rows.peopleChainMeetsRow.wfByText (OpenSpec.ofChange Rows.peopleChainMeetsSpec) = true := by kernel_rfl
theorem peopleChainMeets_goes : false = Rows.peopleChainMeetsRow.goesBy Tryd.prog := by kernel_rfl

theorem peopleChainMeets_holds : Rows.PeopleChainMeetsCardSaid :=
  Claim7.holds_tied_plain_at .later [] [.data] true (true, "4764b70f8623470a50b7ce1acf80ec698c3f3e3bb83f6c5d10683b75cb259304") false
    peopleChainMeets_said (fun _ h => by cases h) peopleChainMeets_wf (fun _ h => by cases h) peopleChainMeets_row_tie rfl ⟨rfl, rfl⟩ main_is rfl
    (fun f fn hf hfn => by
      obtain rfl : f = 10 := (Option.some.inj (peopleChainMeets_named.symm.trans hf)).symm
      obtain rfl : fn = Tryd.f10 := (Option.some.inj (Tryd.func10.symm.trans hfn)).symm
      exact ⟨no_looks, fun j t ht => by
        rw [Tryd.params10] at ht
        have hm : t ∈ ([59, 9, 9] : List TypeId) := by simpa using Array.mem_of_getElem? ht
        exact (show Tryd.prog.wantsStandIn t = false by simpa using List.all_eq_true.1 peopleChainMeets_stand t hm)⟩)
    peopleChainMeets_goes
#print axioms peopleChainMeets_holds
end Go.Proofs.YtdmcopjbckelmaaDoor
