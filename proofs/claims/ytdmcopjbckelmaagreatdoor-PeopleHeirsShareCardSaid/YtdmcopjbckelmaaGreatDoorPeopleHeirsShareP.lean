/- PeopleHeirsShare returns true for every input, in every memory in which the package variable zero of the package metro holds what the program's text lays in it. Conditions: that listed variable alone. -/
import Derived.Test.YtdmcopjbckelmaaGreatDoorZV16
import Derived.Test.YtdmcopjbckelmaaGreatDoorZO
import Derived.Test.YtdmcopjbckelmaaGreatDoorZK
import Derived.Test.YtdmcopjbckelmaaGreatDoorFPeopleHeirsShare
import Derived.Test.YtdmcopjbckelmaaGreatDoorTie
import Derived.Test.YtdmcopjbckelmaaGreatDoorCards
import Derived.SevenTiedAt
import Derived.ChangeMaps5
import Derived.Carry
namespace Go.Proofs.YtdmcopjbckelmaaGreatDoor
open Go Go.ChangeShapes Go.WideShapes Go.ChangeAt Go.WideMaps Go.WideElems Go.RowKit

set_option maxRecDepth 100000 in
theorem peopleHeirsShare_lifted (os : Os) (started : os.Started) (H : Type) (enc : TypeId × Value → H) :
    ReturnsInHanded {} Tryz.checked os 3 .any (fun w args => (Rows.peopleHeirsShareSpec.pre enc Tryz.prog Tryz.f3 [] false w args ∧ laidMetH Tryz.prog laidZ w) ∧ sizedMet enc Tryz.prog Tryz.f3 (OpenSpec.ofChange Rows.peopleHeirsShareSpec) false w args)
      (Rows.peopleHeirsShareSpec.post enc Tryz.prog Tryz.f3 false true false false) := by
  refine returnsInHanded_of_change_and (C := Tryz.checked) (X := fun w _ => laidMetH Tryz.prog laidZ w) (fun _ _ _ hh h => h.of_heap hh) own started (by kernel_rfl) Tryz.func3
    (ChangeSpec.witness_shaped (enc := enc) (C := Tryz.checked) (os := os) (X := fun w _ => laidMetH Tryz.prog laidZ w) false (World.doorLaid Tryz.prog 400 os) #[.agg #[.slice none 0 0, .slice none 0 0], .string ⟨#[]⟩] 8 rfl (World.shaped_of_RefB (by kernel_rfl) (by kernel_rfl)) (by kernel_rfl) (by kernel_rfl) (by kernel_rfl) (door_met os _)) ?_
  intro W base args ds gs before hval0 hW _ hwt hL _
  have hz := of_laid hL
  have hval : ∀ (j : Nat) t v, Tryz.f3.params[j]? = some t → args[j]? = some v → Value.okWide Tryz.prog W .any base t v := hval0
  have hW' := hW
  obtain ⟨p, q, hA0, hV, rfl, hfz, hnd⟩ := hW
  have hA : DataW.TrodAll enc Tryz.prog W 0 (fun _ => true) true Tryz.f3.params.toList args.toList ds p := hA0
  rw [Tryz.params3] at hA hval hwt
  obtain ⟨v0, v1, d0, d1, p0, p1, rfl, rfl, rfl, h0, h1⟩ := trodAll_two hA
  obtain ⟨rfl, rfl⟩ := trodVars_none hV
  have hwt' : (DataW.weightsEach Tryz.prog [25, 9] [d0, d1]).all (· ≤ reachBytes) = true := hwt
  simp only [DataW.weightsEach, List.all_append, Bool.and_eq_true] at hwt'
  obtain ⟨g0, g1, _⟩ := hwt'
  simp only [List.append_nil] at hW'
  have hk0 := h0
  have hlt0 : ∀ x ∈ p0, x.block < W.heap.size := fun x hx => hW'.lt x (by simp [hx])
  obtain ⟨A0, a0, c0, F0, m0, k0, ps0, fs0, rfl, hn0, hs0, hf0, hw0⟩ := open_net (hval 0 25 v0 rfl rfl) h0
  obtain ⟨s1, rfl, rfl, rfl, w1⟩ := ChangeMaps.open_string Tryz.underlying9 (hval 1 9 v1 rfl rfl) h1
  have b1 : (s1.size : Int) ≤ 9223372036854775807 := by unfold maxLen at w1; omega
  clear hA0 hval0
  refine (heirsShare_all A0 a0 c0 F0 m0 k0 s1 ps0 fs0 W hn0 hs0 hz (hw0 g0)).mono fun e W' ⟨he, hb⟩ => ?_
  subst he
  exact ⟨_, rfl, _, _, _, [], _, [], hW', trodAll_mk1 (shut_bool Tryz.underlying4 _), trodAll_mk2 (Below.trod people_j1 (by kernel_rfl) (of_decide_eq_true (by kernel_rfl)) hk0 hb hlt0) (ChangeMaps.shut_string Tryz.underlying9 w1), rfl, hb.frame _, fun h => by cases h⟩

theorem peopleHeirsShare_named : Tryz.prog.funcNamed "bulla/bullalaw10.PeopleHeirsShare" = some 3 := by kernel_rfl
theorem peopleHeirsShare_said : Rows.PeopleHeirsShareSaid :=
  OpenClaim.holds_of_wide 3 Tryz.f3 rfl rfl rfl rfl rfl rfl rfl ⟨rfl, rfl, rfl, rfl, rfl⟩ rfl rfl rfl rfl rfl peopleHeirsShare_named Tryz.func3 peopleHeirsShare_facts
    (of_decide_eq_true (by kernel_rfl)) (by unfold Func.isWrapper; first | (rw [if_pos (by decide +kernel)]; kernel_rfl) | (rw [if_neg (by decide +kernel)]; exact ⟨rfl, rfl⟩))
    (fun os started H enc _ => peopleHeirsShare_lifted os started H enc)
theorem peopleHeirsShare_stand : ([25, 9].all fun u => !Tryz.prog.wantsStandIn u) = true := by kernel_rfl
theorem peopleHeirsShare_wf : Rows.peopleHeirsShareRow.wfByText (OpenSpec.ofChange Rows.peopleHeirsShareSpec) = true := by kernel_rfl
theorem peopleHeirsShare_goes : false = Rows.peopleHeirsShareRow.goesBy Tryz.prog := by kernel_rfl

theorem peopleHeirsShare_holds : Rows.PeopleHeirsShareCardSaid :=
  Claim7.holds_tied_plain_at .later [] [.data] true (true, "fc9df83ae5ae594bf27bb4da61373a51c620c849ebaf90019e4fb7ebb6289732") false
    peopleHeirsShare_said (fun _ h => by cases h) peopleHeirsShare_wf (fun _ h => by cases h) peopleHeirsShare_row_tie rfl ⟨rfl, rfl⟩ main_is rfl
    (fun f fn hf hfn => by
      obtain rfl : f = 3 := (Option.some.inj (peopleHeirsShare_named.symm.trans hf)).symm
      obtain rfl : fn = Tryz.f3 := (Option.some.inj (Tryz.func3.symm.trans hfn)).symm
      exact ⟨no_looks, fun j t ht => by
        rw [Tryz.params3] at ht
        have hm : t ∈ ([25, 9] : List TypeId) := by simpa using Array.mem_of_getElem? ht
        exact (show Tryz.prog.wantsStandIn t = false by simpa using List.all_eq_true.1 peopleHeirsShare_stand t hm)⟩)
    peopleHeirsShare_goes
#print axioms peopleHeirsShare_holds
end Go.Proofs.YtdmcopjbckelmaaGreatDoor
