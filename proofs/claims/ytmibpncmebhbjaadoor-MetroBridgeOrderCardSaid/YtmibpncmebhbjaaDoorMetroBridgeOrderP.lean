/- MetroBridgeOrder returns true for every input, in every memory in which the package variable zero of the package metro holds what the program's text lays in it. Conditions: that listed variable alone. -/
import Derived.Test.YtmibpncmebhbjaaDoorRow15
import Derived.Test.YtmibpncmebhbjaaDoorOpenK
import Derived.Test.YtmibpncmebhbjaaDoorOpenL
import Derived.Test.YtmibpncmebhbjaaDoorOpenB
import Derived.Test.YtmibpncmebhbjaaDoorP10
import Derived.Test.YtmibpncmebhbjaaDoorTie
import Derived.Test.YtmibpncmebhbjaaDoorCards
import Derived.SevenTiedAt
import Derived.ChangeMaps5
import Derived.Carry
import Derived.Test.YtmibpncmebhbjaaDoorFMetroBridgeOrder
import Derived.Test.YtmibpncmebhbjaaDoorP11
namespace Go.Proofs.YtmibpncmebhbjaaDoor
open Go Go.ChangeShapes Go.WideShapes Go.ChangeAt Go.WideMaps Go.WideElems Go.RowKit

set_option maxRecDepth 100000 in
theorem metroBridgeOrder_lifted (os : Os) (started : os.Started) (H : Type) (enc : TypeId × Value → H) :
    ReturnsInHanded {} Tryd.checked os 9 .any (fun w args => (Rows.metroBridgeOrderSpec.pre enc Tryd.prog Tryd.f9 [] false w args ∧ laidMetH Tryd.prog laidZ w) ∧ sizedMet enc Tryd.prog Tryd.f9 (OpenSpec.ofChange Rows.metroBridgeOrderSpec) false w args)
      (Rows.metroBridgeOrderSpec.post enc Tryd.prog Tryd.f9 false true false false) := by
  refine returnsInHanded_of_change_and (C := Tryd.checked) (X := fun w _ => laidMetH Tryd.prog laidZ w) (fun _ _ _ hh h => h.of_heap hh) own started (by kernel_rfl) Tryd.func9
    (ChangeSpec.witness_shaped (enc := enc) (C := Tryd.checked) (os := os) (X := fun w _ => laidMetH Tryd.prog laidZ w) false (World.doorLaid Tryd.prog 400 os) #[.slice none 0 0, .slice none 0 0, .slice none 0 0] 8 rfl (World.shaped_of_RefB (by kernel_rfl) (by kernel_rfl)) (by kernel_rfl) (by kernel_rfl) (by kernel_rfl) (door_met os _)) ?_
  intro W base args ds gs before hval0 hW _ hwt hL _
  have hz := of_laid hL
  have hval : ∀ (j : Nat) t v, Tryd.f9.params[j]? = some t → args[j]? = some v → Value.okWide Tryd.prog W .any base t v := hval0
  have hW' := hW
  obtain ⟨p, q, hA0, hV, rfl, hfz, hnd⟩ := hW
  have hA : DataW.TrodAll enc Tryd.prog W 0 (fun _ => true) true Tryd.f9.params.toList args.toList ds p := hA0
  rw [Tryd.params9] at hA hval hwt
  obtain ⟨v0, v1, v2, d0, d1, d2, p0, p1, p2, rfl, rfl, rfl, h0, h1, h2⟩ := trodAll_three hA
  obtain ⟨rfl, rfl⟩ := trodVars_none hV
  have hwt' : (DataW.weightsEach Tryd.prog [40, 75, 81] [d0, d1, d2]).all (· ≤ reachBytes) = true := hwt
  simp only [DataW.weightsEach, List.all_append, Bool.and_eq_true] at hwt'
  obtain ⟨g0, g1, g2, _⟩ := hwt'
  simp only [List.append_nil] at hW'
  have hk0 := h0
  have hlt0 : ∀ x ∈ p0, x.block < W.heap.size := fun x hx => hW'.lt x (by simp [hx])
  have hk1 := h1
  have hlt1 : ∀ x ∈ p1, x.block < W.heap.size := fun x hx => hW'.lt x (by simp [hx])
  have hk2 := h2
  have hlt2 : ∀ x ∈ p2, x.block < W.heap.size := fun x hx => hW'.lt x (by simp [hx])
  obtain ⟨x0, hx0⟩ := open_links (hval 0 40 v0 rfl rfl) h0
  obtain ⟨l1, A1, c1, rfl, hs1, hb1, hw1⟩ := open_intl (hval 1 75 v1 rfl rfl) h1
  obtain ⟨l2, A2, c2, rfl, hs2⟩ := open_bools (hval 2 81 v2 rfl rfl) h2
  clear hA0 hval0
  refine (bridgeOrder_any x0 v0 l1 _ l2 _ W hz hx0.1 hx0.2 hs1 hb1 hs2).mono fun e W' ⟨he, hb⟩ => ?_
  subst he
  exact ⟨_, rfl, _, _, _, [], _, [], hW', trodAll_mk1 (shut_bool Tryd.underlying4 _), trodAll_mk3 (Below.trod metroRatioMakes_j1 (by kernel_rfl) (of_decide_eq_true (by kernel_rfl)) hk0 hb hlt0) (Below.trod metroRatioMakes_j1 (by kernel_rfl) (of_decide_eq_true (by kernel_rfl)) hk1 hb hlt1) (Below.trod metroRatioMakes_j1 (by kernel_rfl) (of_decide_eq_true (by kernel_rfl)) hk2 hb hlt2), rfl, hb.frame _, fun h => by cases h⟩

theorem metroBridgeOrder_named : Tryd.prog.funcNamed "bulla/bullalaw01.MetroBridgeOrder" = some 9 := by kernel_rfl
theorem metroBridgeOrder_said : Rows.MetroBridgeOrderSaid :=
  OpenClaim.holds_of_wide 9 Tryd.f9 rfl rfl rfl rfl rfl rfl rfl ⟨rfl, rfl, rfl, rfl, rfl⟩ rfl rfl rfl rfl rfl metroBridgeOrder_named Tryd.func9 metroBridgeOrder_facts
    (of_decide_eq_true (by kernel_rfl)) (by unfold Func.isWrapper; first | (rw [if_pos (by decide +kernel)]; kernel_rfl) | (rw [if_neg (by decide +kernel)]; exact ⟨rfl, rfl⟩))
    (fun os started H enc _ => metroBridgeOrder_lifted os started H enc)
theorem metroBridgeOrder_stand : ([40, 75, 81].all fun u => !Tryd.prog.wantsStandIn u) = true := by kernel_rfl
theorem metroBridgeOrder_wf : Rows.metroBridgeOrderRow.wfByText (OpenSpec.ofChange Rows.metroBridgeOrderSpec) = true := by kernel_rfl
theorem metroBridgeOrder_goes : false = Rows.metroBridgeOrderRow.goesBy Tryd.prog := by kernel_rfl

theorem metroBridgeOrder_holds : Rows.MetroBridgeOrderCardSaid :=
  Claim7.holds_tied_plain_at .later [] [.data] true (true, "39000107c98541ae85f89aa5d43c018fa150e1a34d3d32bffef3cfc6aba633ae") false
    metroBridgeOrder_said (fun _ h => by cases h) metroBridgeOrder_wf (fun _ h => by cases h) metroBridgeOrder_row_tie rfl ⟨rfl, rfl⟩ main_is rfl
    (fun f fn hf hfn => by
      obtain rfl : f = 9 := (Option.some.inj (metroBridgeOrder_named.symm.trans hf)).symm
      obtain rfl : fn = Tryd.f9 := (Option.some.inj (Tryd.func9.symm.trans hfn)).symm
      exact ⟨no_looks, fun j t ht => by
        rw [Tryd.params9] at ht
        have hm : t ∈ ([40, 75, 81] : List TypeId) := by simpa using Array.mem_of_getElem? ht
        exact (show Tryd.prog.wantsStandIn t = false by simpa using List.all_eq_true.1 metroBridgeOrder_stand t hm)⟩)
    metroBridgeOrder_goes
#print axioms metroBridgeOrder_holds
end Go.Proofs.YtmibpncmebhbjaaDoor
