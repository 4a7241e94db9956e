/- PeopleContrarySmallest returns true for every input, in every memory in which the package variable zero of the package metro holds what the program's text lays in it. Conditions: that listed variable alone. -/
import Derived.Test.YtdmcopjbckelmaaDoorZV8
import Derived.Test.YtdmcopjbckelmaaDoorZO4
import Derived.Test.YtdmcopjbckelmaaDoorZK
import Derived.Test.YtdmcopjbckelmaaDoorFPeopleContrarySmallest
import Derived.Test.YtdmcopjbckelmaaDoorTie
import Derived.Test.YtdmcopjbckelmaaDoorCards
import Derived.SevenTiedAt
import Derived.ChangeMaps5
import Derived.Carry
namespace Go.Proofs.YtdmcopjbckelmaaDoor
open Go Go.ChangeShapes Go.WideShapes Go.ChangeAt Go.WideMaps Go.WideElems Go.RowKit

set_option maxRecDepth 100000 in
theorem peopleContrarySmallest_lifted (os : Os) (started : os.Started) (H : Type) (enc : TypeId × Value → H) :
    ReturnsInHanded {} Tryd.checked os 9 .any (fun w args => (Rows.peopleContrarySmallestSpec.pre enc Tryd.prog Tryd.f9 [] false w args ∧ laidMetH Tryd.prog laidZ w) ∧ sizedMet enc Tryd.prog Tryd.f9 (OpenSpec.ofChange Rows.peopleContrarySmallestSpec) false w args)
      (Rows.peopleContrarySmallestSpec.post enc Tryd.prog Tryd.f9 false true false false) := by
  refine returnsInHanded_of_change_and (C := Tryd.checked) (X := fun w _ => laidMetH Tryd.prog laidZ w) (fun _ _ _ hh h => h.of_heap hh) own started (by kernel_rfl) Tryd.func9
    (ChangeSpec.witness_shaped (enc := enc) (C := Tryd.checked) (os := os) (X := fun w _ => laidMetH Tryd.prog laidZ w) false (World.doorLaid Tryd.prog 400 os) #[.agg #[.slice none 0 0, .slice none 0 0], .int .i64 1, .slice none 0 0] 8 rfl (World.shaped_of_RefB (by kernel_rfl) (by kernel_rfl)) (by kernel_rfl) (by kernel_rfl) (by kernel_rfl) (door_met os _)) ?_
  intro W base args ds gs before hval0 hW _ hwt hL _
  have hz := of_laid hL
  have hval : ∀ (j : Nat) t v, Tryd.f9.params[j]? = some t → args[j]? = some v → Value.okWide Tryd.prog W .any base t v := hval0
  have hW' := hW
  obtain ⟨p, q, hA0, hV, rfl, hfz, hnd⟩ := hW
  have hA : DataW.TrodAll enc Tryd.prog W 0 (fun _ => true) true Tryd.f9.params.toList args.toList ds p := hA0
  rw [Tryd.params9] at hA hval hwt
  obtain ⟨v0, v1, v2, d0, d1, d2, p0, p1, p2, rfl, rfl, rfl, h0, h1, h2⟩ := trodAll_three hA
  obtain ⟨rfl, rfl⟩ := trodVars_none hV
  have hwt' : (DataW.weightsEach Tryd.prog [25, 3, 43] [d0, d1, d2]).all (· ≤ reachBytes) = true := hwt
  simp only [DataW.weightsEach, List.all_append, Bool.and_eq_true] at hwt'
  obtain ⟨g0, g1, g2, _⟩ := hwt'
  simp only [List.append_nil] at hW'
  have hk0 := h0
  have hlt0 : ∀ x ∈ p0, x.block < W.heap.size := fun x hx => hW'.lt x (by simp [hx])
  have hk2 := h2
  have hlt2 : ∀ x ∈ p2, x.block < W.heap.size := fun x hx => hW'.lt x (by simp [hx])
  obtain ⟨A0, a0, c0, F0, m0, k0, ps0, fs0, rfl, hn0, hs0, hf0, hw0⟩ := open_net (hval 0 25 v0 rfl rfl) h0
  obtain ⟨n1, rfl, rfl, rfl, w1⟩ := open_int Tryd.underlying3 (hval 1 3 v1 rfl rfl) h1
  have b1 : -9223372036854775808 ≤ n1 ∧ n1 ≤ 9223372036854775807 := by
    simp only [Lit.wf, Bool.and_eq_true, decide_eq_true_eq] at w1
    exact w1
  obtain ⟨l2, A2, c2, rfl, hs2, hb2⟩ := open_intl (hval 2 43 v2 rfl rfl) h2
  clear hA0 hval0
  refine (csmall_all A0 a0 c0 F0 m0 k0 n1 (.slice A2 l2.length c2) l2 ps0 fs0 W hn0 hs0 hs2 hz (hw0 g0)).mono fun e W' ⟨he, hb⟩ => ?_
  subst he
  exact ⟨_, rfl, _, _, _, [], _, [], hW', trodAll_mk1 (shut_bool Tryd.underlying4 _), trodAll_mk3 (Below.trod people_j1 (by kernel_rfl) (of_decide_eq_true (by kernel_rfl)) hk0 hb hlt0) (shut_int Tryd.underlying3 w1) (Below.trod people_j1 (by kernel_rfl) (of_decide_eq_true (by kernel_rfl)) hk2 hb hlt2), rfl, hb.frame _, fun h => by cases h⟩

theorem peopleContrarySmallest_named : Tryd.prog.funcNamed "bulla/bullalaw10.PeopleContrarySmallest" = some 9 := by kernel_rfl
theorem peopleContrarySmallest_said : Rows.PeopleContrarySmallestSaid :=
  OpenClaim.holds_of_wide 9 Tryd.f9 rfl rfl rfl rfl rfl rfl rfl ⟨rfl, rfl, rfl, rfl, rfl⟩ rfl rfl rfl rfl rfl peopleContrarySmallest_named Tryd.func9 peopleContrarySmallest_facts
    (of_decide_eq_true (by kernel_rfl)) (by unfold Func.isWrapper; first | (rw [if_pos (by decide +kernel)]; kernel_rfl) | (rw [if_neg (by decide +kernel)]; exact ⟨rfl, rfl⟩))
    (fun os started H enc _ => peopleContrarySmallest_lifted os started H enc)
theorem peopleContrarySmallest_stand : ([25, 3, 43].all fun u => !Tryd.prog.wantsStandIn u) = true := by kernel_rfl
theorem peopleContrarySmallest_wf : Rows.peopleContrarySmallestRow.wfByText (OpenSpec.ofChange Rows.peopleContrarySmallestSpec) = true := by kernel_rfl
theorem peopleContrarySmallest_goes : false = Rows.peopleContrarySmallestRow.goesBy Tryd.prog := by kernel_rfl

theorem peopleContrarySmallest_holds : Rows.PeopleContrarySmallestCardSaid :=
  Claim7.holds_tied_plain_at .later [] [.data] true (true, "4764b70f8623470a50b7ce1acf80ec698c3f3e3bb83f6c5d10683b75cb259304") false
    peopleContrarySmallest_said (fun _ h => by cases h) peopleContrarySmallest_wf (fun _ h => by cases h) peopleContrarySmallest_row_tie rfl ⟨rfl, rfl⟩ main_is rfl
    (fun f fn hf hfn => by
      obtain rfl : f = 9 := (Option.some.inj (peopleContrarySmallest_named.symm.trans hf)).symm
      obtain rfl : fn = Tryd.f9 := (Option.some.inj (Tryd.func9.symm.trans hfn)).symm
      exact ⟨no_looks, fun j t ht => by
        rw [Tryd.params9] at ht
        have hm : t ∈ ([25, 3, 43] : List TypeId) := by simpa using Array.mem_of_getElem? ht
        exact (show Tryd.prog.wantsStandIn t = false by simpa using List.all_eq_true.1 peopleContrarySmallest_stand t hm)⟩)
    peopleContrarySmallest_goes
#print axioms peopleContrarySmallest_holds
end Go.Proofs.YtdmcopjbckelmaaDoor
