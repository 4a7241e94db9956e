/- PeopleChecks returns true for every input, in every memory in which the package variable zero of the package metro holds what the program's text lays in it. Conditions: that listed variable alone. -/
import Derived.Test.YtdmcopjbckelmaaDoorZV6
import Derived.Test.YtdmcopjbckelmaaDoorZO
import Derived.Test.YtdmcopjbckelmaaDoorZK
import Derived.Test.YtdmcopjbckelmaaDoorFPeopleChecks
import Derived.Test.YtdmcopjbckelmaaDoorTie
import Derived.Test.YtdmcopjbckelmaaDoorCards
import Derived.SevenTiedAt
import Derived.ChangeMaps5
import Derived.Carry
namespace Go.Proofs.YtdmcopjbckelmaaDoor
open Go Go.ChangeShapes Go.WideShapes Go.ChangeAt Go.WideMaps Go.WideElems Go.RowKit

set_option maxRecDepth 100000 in
theorem peopleChecks_lifted (os : Os) (started : os.Started) (H : Type) (enc : TypeId × Value → H) :
    ReturnsInHanded {} Tryd.checked os 3 .any (fun w args => (Rows.peopleChecksSpec.pre enc Tryd.prog Tryd.f3 [] false w args ∧ laidMetH Tryd.prog laidZ w) ∧ sizedMet enc Tryd.prog Tryd.f3 (OpenSpec.ofChange Rows.peopleChecksSpec) false w args)
      (Rows.peopleChecksSpec.post enc Tryd.prog Tryd.f3 false true false false) := by
  refine returnsInHanded_of_change_and (C := Tryd.checked) (X := fun w _ => laidMetH Tryd.prog laidZ w) (fun _ _ _ hh h => h.of_heap hh) own started (by kernel_rfl) Tryd.func3
    (ChangeSpec.witness_shaped (enc := enc) (C := Tryd.checked) (os := os) (X := fun w _ => laidMetH Tryd.prog laidZ w) false (World.doorLaid Tryd.prog 400 os) #[.agg #[.slice none 0 0, .slice none 0 0]] 8 rfl (World.shaped_of_RefB (by kernel_rfl) (by kernel_rfl)) (by kernel_rfl) (by kernel_rfl) (by kernel_rfl) (door_met os _)) ?_
  intro W base args ds gs before hval0 hW _ hwt hL _
  have hz := of_laid hL
  have hval : ∀ (j : Nat) t v, Tryd.f3.params[j]? = some t → args[j]? = some v → Value.okWide Tryd.prog W .any base t v := hval0
  have hW' := hW
  obtain ⟨p0, q, hA0, hV, rfl, hfz, hnd⟩ := hW
  have hA : DataW.TrodAll enc Tryd.prog W 0 (fun _ => true) true Tryd.f3.params.toList args.toList ds p0 := hA0
  rw [Tryd.params3] at hA hval hwt
  obtain ⟨v0, d0, rfl, rfl, h0⟩ := trodAll_one hA
  obtain ⟨rfl, rfl⟩ := trodVars_none hV
  have hwt' : (DataW.weightsEach Tryd.prog [25] [d0]).all (· ≤ reachBytes) = true := hwt
  simp only [DataW.weightsEach, List.all_append, Bool.and_eq_true] at hwt'
  obtain ⟨g0, _⟩ := hwt'
  simp only [List.append_nil] at hW'
  have hk0 := h0
  have hlt0 : ∀ x ∈ p0, x.block < W.heap.size := fun x hx => hW'.lt x (by simp [hx])
  obtain ⟨A0, a0, c0, F0, m0, k0, ps0, fs0, rfl, hn0, hs0, hf0, hw0⟩ := open_net (hval 0 25 v0 rfl rfl) h0
  clear hA0 hval0
  refine (checks_all A0 a0 c0 F0 m0 k0 ps0 fs0 W hn0 hs0 hz (hw0 g0)).mono fun e W' ⟨he, hb⟩ => ?_
  subst he
  exact ⟨_, rfl, _, _, _, [], _, [], hW', trodAll_mk1 (shut_bool Tryd.underlying4 _), trodAll_mk1 (Below.trod people_j1 (by kernel_rfl) (of_decide_eq_true (by kernel_rfl)) hk0 hb hlt0), rfl, hb.frame _, fun h => by cases h⟩

theorem peopleChecks_named : Tryd.prog.funcNamed "bulla/bullalaw10.PeopleChecks" = some 3 := by kernel_rfl
theorem peopleChecks_said : Rows.PeopleChecksSaid :=
  OpenClaim.holds_of_wide 3 Tryd.f3 rfl rfl rfl rfl rfl rfl rfl ⟨rfl, rfl, rfl, rfl, rfl⟩ rfl rfl rfl rfl rfl peopleChecks_named Tryd.func3 peopleChecks_facts
    (of_decide_eq_true (by kernel_rfl)) (by unfold Func.isWrapper; first | (rw [if_pos (by decide +kernel)]; kernel_rfl) | (rw [if_neg (by decide +kernel)]; exact ⟨rfl, rfl⟩))
    (fun os started H enc _ => peopleChecks_lifted os started H enc)
theorem peopleChecks_stand : ([25].all fun u => !Tryd.prog.wantsStandIn u) = true := by kernel_rfl
theorem peopleChecks_wf : Rows.peopleChecksRow.wfByText (OpenSpec.ofChange Rows.peopleChecksSpec) = true := by kernel_rfl
theorem peopleChecks_goes : false = Rows.peopleChecksRow.goesBy Tryd.prog := by kernel_rfl

theorem peopleChecks_holds : Rows.PeopleChecksCardSaid :=
  Claim7.holds_tied_plain_at .later [] [.data] true (true, "4764b70f8623470a50b7ce1acf80ec698c3f3e3bb83f6c5d10683b75cb259304") false
    peopleChecks_said (fun _ h => by cases h) peopleChecks_wf (fun _ h => by cases h) peopleChecks_row_tie rfl ⟨rfl, rfl⟩ main_is rfl
    (fun f fn hf hfn => by
      obtain rfl : f = 3 := (Option.some.inj (peopleChecks_named.symm.trans hf)).symm
      obtain rfl : fn = Tryd.f3 := (Option.some.inj (Tryd.func3.symm.trans hfn)).symm
      exact ⟨no_looks, fun j t ht => by
        rw [Tryd.params3] at ht
        have hm : t ∈ ([25] : List TypeId) := by simpa using Array.mem_of_getElem? ht
        exact (show Tryd.prog.wantsStandIn t = false by simpa using List.all_eq_true.1 peopleChecks_stand t hm)⟩)
    peopleChecks_goes
#print axioms peopleChecks_holds
end Go.Proofs.YtdmcopjbckelmaaDoor
