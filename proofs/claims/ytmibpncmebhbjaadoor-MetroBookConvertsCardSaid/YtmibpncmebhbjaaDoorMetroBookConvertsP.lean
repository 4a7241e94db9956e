/- MetroBookConverts returns true for every input, in every memory in which the package variable zero of the package metro holds what the program's text lays in it. Conditions: that listed variable alone. -/
import Derived.Test.YtmibpncmebhbjaaDoorRow17
import Derived.Test.YtmibpncmebhbjaaDoorOpenI
import Derived.Test.YtmibpncmebhbjaaDoorP10
import Derived.Test.YtmibpncmebhbjaaDoorTie
import Derived.Test.YtmibpncmebhbjaaDoorCards
import Derived.SevenTiedAt
import Derived.ChangeMaps5
import Derived.Carry
import Derived.Test.YtmibpncmebhbjaaDoorFMetroBookConverts
import Derived.Test.YtmibpncmebhbjaaDoorP11
namespace Go.Proofs.YtmibpncmebhbjaaDoor
open Go Go.ChangeShapes Go.WideShapes Go.ChangeAt Go.WideMaps Go.WideElems Go.RowKit

set_option maxRecDepth 100000 in
theorem metroBookConverts_lifted (os : Os) (started : os.Started) (H : Type) (enc : TypeId × Value → H) :
    ReturnsInHanded {} Tryd.checked os 6 .any (fun w args => (Rows.metroBookConvertsSpec.pre enc Tryd.prog Tryd.f6 [] false w args ∧ laidMetH Tryd.prog laidZ w) ∧ sizedMet enc Tryd.prog Tryd.f6 (OpenSpec.ofChange Rows.metroBookConvertsSpec) false w args)
      (Rows.metroBookConvertsSpec.post enc Tryd.prog Tryd.f6 false true false false) := by
  refine returnsInHanded_of_change_and (C := Tryd.checked) (X := fun w _ => laidMetH Tryd.prog laidZ w) (fun _ _ _ hh h => h.of_heap hh) own started (by kernel_rfl) Tryd.func6
    (ChangeSpec.witness_shaped (enc := enc) (C := Tryd.checked) (os := os) (X := fun w _ => laidMetH Tryd.prog laidZ w) false (World.doorLaid Tryd.prog 400 os) #[.agg #[.slice none 0 0, .slice none 0 0, .slice none 0 0, .slice none 0 0]] 8 rfl (World.shaped_of_RefB (by kernel_rfl) (by kernel_rfl)) (by kernel_rfl) (by kernel_rfl) (by kernel_rfl) (door_met os _)) ?_
  intro W base args ds gs before hval0 hW _ hwt hL _
  have hz := of_laid hL
  have hval : ∀ (j : Nat) t v, Tryd.f6.params[j]? = some t → args[j]? = some v → Value.okWide Tryd.prog W .any base t v := hval0
  have hW' := hW
  obtain ⟨p0, q, hA0, hV, rfl, hfz, hnd⟩ := hW
  have hA : DataW.TrodAll enc Tryd.prog W 0 (fun _ => true) true Tryd.f6.params.toList args.toList ds p0 := hA0
  rw [Tryd.params6] at hA hval hwt
  obtain ⟨v0, d0, rfl, rfl, h0⟩ := trodAll_one hA
  obtain ⟨rfl, rfl⟩ := trodVars_none hV
  have hwt' : (DataW.weightsEach Tryd.prog [60] [d0]).all (· ≤ reachBytes) = true := hwt
  simp only [DataW.weightsEach, List.all_append, Bool.and_eq_true] at hwt'
  obtain ⟨g0, _⟩ := hwt'
  simp only [List.append_nil] at hW'
  have hk0 := h0
  have hlt0 : ∀ x ∈ p0, x.block < W.heap.size := fun x hx => hW'.lt x (by simp [hx])
  obtain ⟨vl, vb, vn, va, ls, bs, ns, ams, rfl, hls, hbs, hns, hns2, has, has2⟩ := open_in (hval 0 60 v0 rfl rfl) h0
  clear hA0 hval0
  refine (bookConverts_any vl vb vn va ls bs ns ams W hz hls hbs hns has).mono fun e W' ⟨he, hb⟩ => ?_
  subst he
  exact ⟨_, rfl, _, _, _, [], _, [], hW', trodAll_mk1 (shut_bool Tryd.underlying4 _), trodAll_mk1 (Below.trod metroRatioMakes_j1 (by kernel_rfl) (of_decide_eq_true (by kernel_rfl)) hk0 hb hlt0), rfl, hb.frame _, fun h => by cases h⟩

theorem metroBookConverts_named : Tryd.prog.funcNamed "bulla/bullalaw01.MetroBookConverts" = some 6 := by kernel_rfl
theorem metroBookConverts_said : Rows.MetroBookConvertsSaid :=
  OpenClaim.holds_of_wide 6 Tryd.f6 rfl rfl rfl rfl rfl rfl rfl ⟨rfl, rfl, rfl, rfl, rfl⟩ rfl rfl rfl rfl rfl metroBookConverts_named Tryd.func6 metroBookConverts_facts
    (of_decide_eq_true (by kernel_rfl)) (by unfold Func.isWrapper; first | (rw [if_pos (by decide +kernel)]; kernel_rfl) | (rw [if_neg (by decide +kernel)]; exact ⟨rfl, rfl⟩))
    (fun os started H enc _ => metroBookConverts_lifted os started H enc)
theorem metroBookConverts_stand : ([60].all fun u => !Tryd.prog.wantsStandIn u) = true := by kernel_rfl
theorem metroBookConverts_wf : Rows.metroBookConvertsRow.wfByText (OpenSpec.ofChange Rows.metroBookConvertsSpec) = true := by kernel_rfl
theorem metroBookConverts_goes : false = Rows.metroBookConvertsRow.goesBy Tryd.prog := by kernel_rfl

theorem metroBookConverts_holds : Rows.MetroBookConvertsCardSaid :=
  Claim7.holds_tied_plain_at .later [] [.data] true (true, "39000107c98541ae85f89aa5d43c018fa150e1a34d3d32bffef3cfc6aba633ae") false
    metroBookConverts_said (fun _ h => by cases h) metroBookConverts_wf (fun _ h => by cases h) metroBookConverts_row_tie rfl ⟨rfl, rfl⟩ main_is rfl
    (fun f fn hf hfn => by
      obtain rfl : f = 6 := (Option.some.inj (metroBookConverts_named.symm.trans hf)).symm
      obtain rfl : fn = Tryd.f6 := (Option.some.inj (Tryd.func6.symm.trans hfn)).symm
      exact ⟨no_looks, fun j t ht => by
        rw [Tryd.params6] at ht
        have hm : t ∈ ([60] : List TypeId) := by simpa using Array.mem_of_getElem? ht
        exact (show Tryd.prog.wantsStandIn t = false by simpa using List.all_eq_true.1 metroBookConverts_stand t hm)⟩)
    metroBookConverts_goes
#print axioms metroBookConverts_holds
end Go.Proofs.YtmibpncmebhbjaaDoor
