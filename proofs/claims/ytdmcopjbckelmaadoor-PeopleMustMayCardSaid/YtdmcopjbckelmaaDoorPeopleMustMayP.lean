/- PeopleMustMay returns true for every input, in every memory in which the package variable zero of the package metro holds what the program's text lays in it. Conditions: that listed variable alone. -/
import Derived.Test.YtdmcopjbckelmaaDoorZV3
import Derived.Test.YtdmcopjbckelmaaDoorZO
import Derived.Test.YtdmcopjbckelmaaDoorZK
import Derived.Test.YtdmcopjbckelmaaDoorFPeopleMustMay
import Derived.Test.YtdmcopjbckelmaaDoorTie
import Derived.Test.YtdmcopjbckelmaaDoorCards
import Derived.SevenTiedAt
import Derived.ChangeMaps5
import Derived.Carry
namespace Go.Proofs.YtdmcopjbckelmaaDoor
open Go Go.ChangeShapes Go.WideShapes Go.ChangeAt Go.WideMaps Go.WideElems Go.RowKit

set_option maxRecDepth 100000 in
theorem peopleMustMay_lifted (os : Os) (started : os.Started) (H : Type) (enc : TypeId × Value → H) :
    ReturnsInHanded {} Tryd.checked os 7 .any (fun w args => (Rows.peopleMustMaySpec.pre enc Tryd.prog Tryd.f7 [] false w args ∧ laidMetH Tryd.prog laidZ w) ∧ sizedMet enc Tryd.prog Tryd.f7 (OpenSpec.ofChange Rows.peopleMustMaySpec) false w args)
      (Rows.peopleMustMaySpec.post enc Tryd.prog Tryd.f7 false true false false) := by
  refine returnsInHanded_of_change_and (C := Tryd.checked) (X := fun w _ => laidMetH Tryd.prog laidZ w) (fun _ _ _ hh h => h.of_heap hh) own started (by kernel_rfl) Tryd.func7
    (ChangeSpec.witness_shaped (enc := enc) (C := Tryd.checked) (os := os) (X := fun w _ => laidMetH Tryd.prog laidZ w) false (World.doorLaid Tryd.prog 400 os) #[.agg #[.slice none 0 0, .slice none 0 0], .agg #[.int .i64 1, .string ⟨#[]⟩, .string ⟨#[]⟩, .int .i64 1], .agg #[.slice none 0 0, .slice none 0 0]] 8 rfl (World.shaped_of_RefB (by kernel_rfl) (by kernel_rfl)) (by kernel_rfl) (by kernel_rfl) (by kernel_rfl) (door_met os _)) ?_
  intro W base args ds gs before hval0 hW _ hwt hL _
  have hz := of_laid hL
  have hval : ∀ (j : Nat) t v, Tryd.f7.params[j]? = some t → args[j]? = some v → Value.okWide Tryd.prog W .any base t v := hval0
  have hW' := hW
  obtain ⟨p, q, hA0, hV, rfl, hfz, hnd⟩ := hW
  have hA : DataW.TrodAll enc Tryd.prog W 0 (fun _ => true) true Tryd.f7.params.toList args.toList ds p := hA0
  rw [Tryd.params7] at hA hval hwt
  obtain ⟨v0, v1, v2, d0, d1, d2, p0, p1, p2, rfl, rfl, rfl, h0, h1, h2⟩ := trodAll_three hA
  obtain ⟨rfl, rfl⟩ := trodVars_none hV
  have hwt' : (DataW.weightsEach Tryd.prog [25, 40, 45] [d0, d1, d2]).all (· ≤ reachBytes) = true := hwt
  simp only [DataW.weightsEach, List.all_append, Bool.and_eq_true] at hwt'
  obtain ⟨g0, g1, g2, _⟩ := hwt'
  simp only [List.append_nil] at hW'
  have hk0 := h0
  have hlt0 : ∀ x ∈ p0, x.block < W.heap.size := fun x hx => hW'.lt x (by simp [hx])
  have hk1 := h1
  have hlt1 : ∀ x ∈ p1, x.block < W.heap.size := fun x hx => hW'.lt x (by simp [hx])
  have hk2 := h2
  have hlt2 : ∀ x ∈ p2, x.block < W.heap.size := fun x hx => hW'.lt x (by simp [hx])
  obtain ⟨A0, a0, c0, F0, m0, k0, ps0, fs0, rfl, hn0, hs0, hf0, hw0⟩ := open_net (hval 0 25 v0 rfl rfl) h0
  obtain ⟨f1, rfl, hf1⟩ := open_fact (hval 1 40 v1 rfl rfl) h1
  obtain ⟨vb2, vd2, bs2, ds2, rfl, ⟨hb2, bb2⟩, hd2, bd2⟩ := open_years (hval 2 45 v2 rfl rfl) h2
  clear hA0 hval0
  refine (mustMay_all A0 a0 c0 F0 m0 k0 f1 vb2 vd2 ps0 fs0 bs2 ds2 W hn0 hs0 hb2 hd2 hz).mono fun e W' ⟨he, hb⟩ => ?_
  subst he
  exact ⟨_, rfl, _, _, _, [], _, [], hW', trodAll_mk1 (shut_bool Tryd.underlying4 _), trodAll_mk3 (Below.trod people_j1 (by kernel_rfl) (of_decide_eq_true (by kernel_rfl)) hk0 hb hlt0) (Below.trod people_j1 (by kernel_rfl) (of_decide_eq_true (by kernel_rfl)) hk1 hb hlt1) (Below.trod people_j1 (by kernel_rfl) (of_decide_eq_true (by kernel_rfl)) hk2 hb hlt2), rfl, hb.frame _, fun h => by cases h⟩

theorem peopleMustMay_named : Tryd.prog.funcNamed "bulla/bullalaw10.PeopleMustMay" = some 7 := by kernel_rfl
theorem peopleMustMay_said : Rows.PeopleMustMaySaid :=
  OpenClaim.holds_of_wide 7 Tryd.f7 rfl rfl rfl rfl rfl rfl rfl ⟨rfl, rfl, rfl, rfl, rfl⟩ rfl rfl rfl rfl rfl peopleMustMay_named Tryd.func7 peopleMustMay_facts
    (of_decide_eq_true (by kernel_rfl)) (by unfold Func.isWrapper; first | (rw [if_pos (by decide +kernel)]; kernel_rfl) | (rw [if_neg (by decide +kernel)]; exact ⟨rfl, rfl⟩))
    (fun os started H enc _ => peopleMustMay_lifted os started H enc)
theorem peopleMustMay_stand : ([25, 40, 45].all fun u => !Tryd.prog.wantsStandIn u) = true := by kernel_rfl
theorem peopleMustMay_wf : Rows.peopleMustMayRow.wfByText (OpenSpec.ofChange Rows.peopleMustMaySpec) = true := by kernel_rfl
theorem peopleMustMay_goes : false = Rows.peopleMustMayRow.goesBy Tryd.prog := by kernel_rfl

theorem peopleMustMay_holds : Rows.PeopleMustMayCardSaid :=
  Claim7.holds_tied_plain_at .later [] [.data] true (true, "4764b70f8623470a50b7ce1acf80ec698c3f3e3bb83f6c5d10683b75cb259304") false
    peopleMustMay_said (fun _ h => by cases h) peopleMustMay_wf (fun _ h => by cases h) peopleMustMay_row_tie rfl ⟨rfl, rfl⟩ main_is rfl
    (fun f fn hf hfn => by
      obtain rfl : f = 7 := (Option.some.inj (peopleMustMay_named.symm.trans hf)).symm
      obtain rfl : fn = Tryd.f7 := (Option.some.inj (Tryd.func7.symm.trans hfn)).symm
      exact ⟨no_looks, fun j t ht => by
        rw [Tryd.params7] at ht
        have hm : t ∈ ([25, 40, 45] : List TypeId) := by simpa using Array.mem_of_getElem? ht
        exact (show Tryd.prog.wantsStandIn t = false by simpa using List.all_eq_true.1 peopleMustMay_stand t hm)⟩)
    peopleMustMay_goes
#print axioms peopleMustMay_holds
end Go.Proofs.YtdmcopjbckelmaaDoor
