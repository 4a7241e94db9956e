/- PeopleKnown returns true for every input, in every memory in which the package variable zero of the package metro holds what the program's text lays in it. Conditions: that listed variable alone. -/
import Derived.Test.YtdmcopjbckelmaaGreatDoorZV17
import Derived.Test.YtdmcopjbckelmaaGreatDoorZK
import Derived.Test.YtdmcopjbckelmaaGreatDoorFPeopleKnown
import Derived.Test.YtdmcopjbckelmaaGreatDoorTie
import Derived.Test.YtdmcopjbckelmaaGreatDoorCards
import Derived.SevenTiedAt
import Derived.ChangeMaps5
import Derived.Carry
namespace Go.Proofs.YtdmcopjbckelmaaGreatDoor
open Go Go.ChangeShapes Go.WideShapes Go.ChangeAt Go.WideMaps Go.WideElems Go.RowKit

set_option maxRecDepth 100000 in
theorem peopleKnown_lifted (os : Os) (started : os.Started) (H : Type) (enc : TypeId × Value → H) :
    ReturnsInHanded {} Tryz.checked os 10 .any (fun w args => (Rows.peopleKnownSpec.pre enc Tryz.prog Tryz.f10 [] false w args ∧ laidMetH Tryz.prog laidZ w) ∧ sizedMet enc Tryz.prog Tryz.f10 (OpenSpec.ofChange Rows.peopleKnownSpec) false w args)
      (Rows.peopleKnownSpec.post enc Tryz.prog Tryz.f10 false true false false) := by
  refine returnsInHanded_of_change_and (C := Tryz.checked) (X := fun w _ => laidMetH Tryz.prog laidZ w) (fun _ _ _ hh h => h.of_heap hh) own started (by kernel_rfl) Tryz.func10
    (ChangeSpec.witness_shaped (enc := enc) (C := Tryz.checked) (os := os) (X := fun w _ => laidMetH Tryz.prog laidZ w) false (World.doorLaid Tryz.prog 400 os) #[] 8 rfl (World.shaped_of_RefB (by kernel_rfl) (by kernel_rfl)) (by kernel_rfl) (by kernel_rfl) (by kernel_rfl) (door_met os _)) ?_
  intro W base args ds gs before hval0 hW _ hwt hL _
  have hz := of_laid hL
  have hval : ∀ (j : Nat) t v, Tryz.f10.params[j]? = some t → args[j]? = some v → Value.okWide Tryz.prog W .any base t v := hval0
  have hW' := hW
  obtain ⟨p, q, hA0, hV, rfl, hfz, hnd⟩ := hW
  have hA : DataW.TrodAll enc Tryz.prog W 0 (fun _ => true) true Tryz.f10.params.toList args.toList ds p := hA0
  rw [Tryz.params10] at hA hval hwt
  obtain ⟨rfl, rfl, rfl⟩ := trodAll_none hA
  obtain ⟨rfl, rfl⟩ := trodVars_none hV
  simp only [List.append_nil] at hW'
  clear hA0 hval0
  refine (known_any W hz).mono fun e W' ⟨he, hb⟩ => ?_
  subst he
  exact ⟨_, rfl, _, _, _, [], _, [], hW', trodAll_mk1 (shut_bool Tryz.underlying4 _), trodAll_mk0, rfl, hb.frame _, fun h => by cases h⟩

theorem peopleKnown_named : Tryz.prog.funcNamed "bulla/bullalaw10.PeopleKnown" = some 10 := by kernel_rfl
theorem peopleKnown_said : Rows.PeopleKnownSaid :=
  OpenClaim.holds_of_wide 10 Tryz.f10 rfl rfl rfl rfl rfl rfl rfl ⟨rfl, rfl, rfl, rfl, rfl⟩ rfl rfl rfl rfl rfl peopleKnown_named Tryz.func10 peopleKnown_facts
    (of_decide_eq_true (by kernel_rfl)) (by unfold Func.isWrapper; first | (rw [if_pos (by decide +kernel)]; kernel_rfl) | (rw [if_neg (by decide +kernel)]; exact ⟨rfl, rfl⟩))
    (fun os started H enc _ => peopleKnown_lifted os started H enc)
theorem peopleKnown_stand : ([].all fun u => !Tryz.prog.wantsStandIn u) = true := by kernel_rfl
theorem peopleKnown_wf : Rows.peopleKnownRow.wfByText (OpenSpec.ofChange Rows.peopleKnownSpec) = true := by kernel_rfl
theorem peopleKnown_goes : false = Rows.peopleKnownRow.goesBy Tryz.prog := by kernel_rfl

theorem peopleKnown_holds : Rows.PeopleKnownCardSaid :=
  Claim7.holds_tied_plain_at .later [] [.data] true (true, "fc9df83ae5ae594bf27bb4da61373a51c620c849ebaf90019e4fb7ebb6289732") false
    peopleKnown_said (fun _ h => by cases h) peopleKnown_wf (fun _ h => by cases h) peopleKnown_row_tie rfl ⟨rfl, rfl⟩ main_is rfl
    (fun f fn hf hfn => by
      obtain rfl : f = 10 := (Option.some.inj (peopleKnown_named.symm.trans hf)).symm
      obtain rfl : fn = Tryz.f10 := (Option.some.inj (Tryz.func10.symm.trans hfn)).symm
      exact ⟨no_looks, fun j t ht => by
        rw [Tryz.params10] at ht
        have hm : t ∈ ([] : List TypeId) := by simpa using Array.mem_of_getElem? ht
        exact (show Tryz.prog.wantsStandIn t = false by simpa using List.all_eq_true.1 peopleKnown_stand t hm)⟩)
    peopleKnown_goes
#print axioms peopleKnown_holds
end Go.Proofs.YtdmcopjbckelmaaGreatDoor
