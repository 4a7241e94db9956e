/- PeopleDeedsLive returns true for every input, in every memory in which the package variable zero of the package metro holds what the program's text lays in it. Conditions: that listed variable alone. -/
import Derived.Test.YtdmcopjbckelmaaGreatDoorZV14
import Derived.Test.YtdmcopjbckelmaaGreatDoorZO5
import Derived.Test.YtdmcopjbckelmaaGreatDoorZK
import Derived.Test.YtdmcopjbckelmaaGreatDoorFPeopleDeedsLive
import Derived.Test.YtdmcopjbckelmaaGreatDoorTie
import Derived.Test.YtdmcopjbckelmaaGreatDoorCards
import Derived.SevenTiedAt
import Derived.ChangeMaps5
import Derived.Carry
namespace Go.Proofs.YtdmcopjbckelmaaGreatDoor
open Go Go.ChangeShapes Go.WideShapes Go.ChangeAt Go.WideMaps Go.WideElems Go.RowKit

set_option maxRecDepth 100000 in
theorem peopleDeedsLive_lifted (os : Os) (started : os.Started) (H : Type) (enc : TypeId × Value → H) :
    ReturnsInHanded {} Tryz.checked os 7 .any (fun w args => (Rows.peopleDeedsLiveSpec.pre enc Tryz.prog Tryz.f7 [] false w args ∧ laidMetH Tryz.prog laidZ w) ∧ sizedMet enc Tryz.prog Tryz.f7 (OpenSpec.ofChange Rows.peopleDeedsLiveSpec) false w args)
      (Rows.peopleDeedsLiveSpec.post enc Tryz.prog Tryz.f7 false true false false) := by
  refine returnsInHanded_of_change_and (C := Tryz.checked) (X := fun w _ => laidMetH Tryz.prog laidZ w) (fun _ _ _ hh h => h.of_heap hh) own started (by kernel_rfl) Tryz.func7
    (ChangeSpec.witness_shaped (enc := enc) (C := Tryz.checked) (os := os) (X := fun w _ => laidMetH Tryz.prog laidZ w) false (World.doorLaid Tryz.prog 400 os) #[.slice none 0 0] 8 rfl (World.shaped_of_RefB (by kernel_rfl) (by kernel_rfl)) (by kernel_rfl) (by kernel_rfl) (by kernel_rfl) (door_met os _)) ?_
  intro W base args ds gs before hval0 hW _ hwt hL _
  have hz := of_laid hL
  have hval : ∀ (j : Nat) t v, Tryz.f7.params[j]? = some t → args[j]? = some v → Value.okWide Tryz.prog W .any base t v := hval0
  have hW' := hW
  obtain ⟨p0, q, hA0, hV, rfl, hfz, hnd⟩ := hW
  have hA : DataW.TrodAll enc Tryz.prog W 0 (fun _ => true) true Tryz.f7.params.toList args.toList ds p0 := hA0
  rw [Tryz.params7] at hA hval hwt
  obtain ⟨v0, d0, rfl, rfl, h0⟩ := trodAll_one hA
  obtain ⟨rfl, rfl⟩ := trodVars_none hV
  have hwt' : (DataW.weightsEach Tryz.prog [38] [d0]).all (· ≤ reachBytes) = true := hwt
  simp only [DataW.weightsEach, List.all_append, Bool.and_eq_true] at hwt'
  obtain ⟨g0, _⟩ := hwt'
  simp only [List.append_nil] at hW'
  have hk0 := h0
  have hlt0 : ∀ x ∈ p0, x.block < W.heap.size := fun x hx => hW'.lt x (by simp [hx])
  obtain ⟨ds0, hd0, hs0, hb0⟩ := open_deeds (hval 0 38 v0 rfl rfl) h0
  clear hA0 hval0
  refine (deedsLive_all v0 ds0 W hd0 hs0 hz).mono fun e W' ⟨he, hb⟩ => ?_
  subst he
  exact ⟨_, rfl, _, _, _, [], _, [], hW', trodAll_mk1 (shut_bool Tryz.underlying4 _), trodAll_mk1 (Below.trod people_j1 (by kernel_rfl) (of_decide_eq_true (by kernel_rfl)) hk0 hb hlt0), rfl, hb.frame _, fun h => by cases h⟩

theorem peopleDeedsLive_named : Tryz.prog.funcNamed "bulla/bullalaw10.PeopleDeedsLive" = some 7 := by kernel_rfl
theorem peopleDeedsLive_said : Rows.PeopleDeedsLiveSaid :=
  OpenClaim.holds_of_wide 7 Tryz.f7 rfl rfl rfl rfl rfl rfl rfl ⟨rfl, rfl, rfl, rfl, rfl⟩ rfl rfl rfl rfl rfl peopleDeedsLive_named Tryz.func7 peopleDeedsLive_facts
    (of_decide_eq_true (by kernel_rfl)) (by unfold Func.isWrapper; first | (rw [if_pos (by decide +kernel)]; kernel_rfl) | (rw [if_neg (by decide +kernel)]; exact ⟨rfl, rfl⟩))
    (fun os started H enc _ => peopleDeedsLive_lifted os started H enc)
theorem peopleDeedsLive_stand : ([38].all fun u => !Tryz.prog.wantsStandIn u) = true := by kernel_rfl
theorem peopleDeedsLive_wf : Rows.peopleDeedsLiveRow.wfByText (OpenSpec.ofChange Rows.peopleDeedsLiveSpec) = true := by kernel_rfl
theorem peopleDeedsLive_goes : false = Rows.peopleDeedsLiveRow.goesBy Tryz.prog := by kernel_rfl

theorem peopleDeedsLive_holds : Rows.PeopleDeedsLiveCardSaid :=
  Claim7.holds_tied_plain_at .later [] [.data] true (true, "fc9df83ae5ae594bf27bb4da61373a51c620c849ebaf90019e4fb7ebb6289732") false
    peopleDeedsLive_said (fun _ h => by cases h) peopleDeedsLive_wf (fun _ h => by cases h) peopleDeedsLive_row_tie rfl ⟨rfl, rfl⟩ main_is rfl
    (fun f fn hf hfn => by
      obtain rfl : f = 7 := (Option.some.inj (peopleDeedsLive_named.symm.trans hf)).symm
      obtain rfl : fn = Tryz.f7 := (Option.some.inj (Tryz.func7.symm.trans hfn)).symm
      exact ⟨no_looks, fun j t ht => by
        rw [Tryz.params7] at ht
        have hm : t ∈ ([38] : List TypeId) := by simpa using Array.mem_of_getElem? ht
        exact (show Tryz.prog.wantsStandIn t = false by simpa using List.all_eq_true.1 peopleDeedsLive_stand t hm)⟩)
    peopleDeedsLive_goes
#print axioms peopleDeedsLive_holds
end Go.Proofs.YtdmcopjbckelmaaGreatDoor
