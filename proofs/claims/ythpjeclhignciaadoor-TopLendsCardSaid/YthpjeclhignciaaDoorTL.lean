/- TopLends returns true for every input, in every memory in which the package variable zero of the package metro holds what the program's text lays in it. Conditions: that listed variable alone. -/
import Derived.Test.YthpjeclhignciaaDoorT22
import Derived.Test.YthpjeclhignciaaDoorTO
import Derived.Test.YthpjeclhignciaaDoorTK
import Derived.Test.YthpjeclhignciaaDoorTF
import Derived.Test.YthpjeclhignciaaDoorTie
import Derived.Test.YthpjeclhignciaaDoorCards
import Derived.SevenTiedAt
import Derived.ChangeMaps5
import Derived.Carry
namespace Go.Proofs.YthpjeclhignciaaDoor
open Go Go.ChangeShapes Go.WideShapes Go.ChangeAt Go.WideMaps Go.WideElems Go.RowKit

set_option maxRecDepth 100000 in
theorem topLends_lifted (os : Os) (started : os.Started) (H : Type) (enc : TypeId × Value → H) :
    ReturnsInHanded {} Tryd.checked os 3 .any (fun w args => (Rows.topLendsSpec.pre enc Tryd.prog Tryd.f3 [] false w args ∧ laidMetH Tryd.prog laidZ w) ∧ sizedMet enc Tryd.prog Tryd.f3 (OpenSpec.ofChange Rows.topLendsSpec) false w args)
      (Rows.topLendsSpec.post enc Tryd.prog Tryd.f3 false true false false) := by
  refine returnsInHanded_of_change_and (C := Tryd.checked) (X := fun w _ => laidMetH Tryd.prog laidZ w) (fun _ _ _ hh h => h.of_heap hh) own started (by kernel_rfl) Tryd.func3
    (ChangeSpec.witness_shaped (enc := enc) (C := Tryd.checked) (os := os) (X := fun w _ => laidMetH Tryd.prog laidZ w) false (World.doorLaid Tryd.prog 400 os) #[.agg #[.slice none 0 0, .slice none 0 0], .agg #[.int .i64 1, .int .i64 1, .int .i64 1, .int .i64 1, .int .i64 1, .int .i64 1, .bool false, .int .i64 1], .agg #[.int .i64 1, .int .i64 1, .int .i64 1]] 8 rfl (World.shaped_of_RefB (by kernel_rfl) (by kernel_rfl)) (by kernel_rfl) (by kernel_rfl) (by kernel_rfl) (door_met os _)) ?_
  intro W base args ds gs before hval0 hW _ hwt hL _
  have hz := of_laid hL
  have hval : ∀ (j : Nat) t v, Tryd.f3.params[j]? = some t → args[j]? = some v → Value.okWide Tryd.prog W .any base t v := hval0
  have hW' := hW
  obtain ⟨p, q, hA0, hV, rfl, hfz, hnd⟩ := hW
  have hA : DataW.TrodAll enc Tryd.prog W 0 (fun _ => true) true Tryd.f3.params.toList args.toList ds p := hA0
  rw [Tryd.params3] at hA hval hwt
  obtain ⟨v0, v1, v2, d0, d1, d2, p0, p1, p2, rfl, rfl, rfl, h0, h1, h2⟩ := trodAll_three hA
  obtain ⟨rfl, rfl⟩ := trodVars_none hV
  simp only [List.append_nil] at hW'
  have hk0 := h0
  have hk1 := h1
  have hk2 := h2
  have hlt0 : ∀ x ∈ p0, x.block < W.heap.size := fun x hx => hW'.lt x (by simp [hx])
  have hlt1 : ∀ x ∈ p1, x.block < W.heap.size := fun x hx => hW'.lt x (by simp [hx])
  have hlt2 : ∀ x ∈ p2, x.block < W.heap.size := fun x hx => hW'.lt x (by simp [hx])
  obtain ⟨Ak, nk, ck, Ay, ny, cy, ks, ys, rfl, hcal⟩ := open_cal (hval 0 25 v0 rfl rfl) h0
  obtain ⟨PN, PD, RN, RD, FY, FM, FD, FS, rfl, c1, c2, c3, c4⟩ := open_loan (hval 1 31 v1 rfl rfl) h1
  obtain ⟨t0, t1, t2, rfl, b0, b1, b2⟩ := open_trip (hval 2 32 v2 rfl rfl) h2
  clear hA0 hval0
  refine (topLends_any PN PD RN RD FY FM FD FS t0 t1 t2 Ak Ay nk ck ny cy ks ys W hcal hz c1 c2 c3 c4 b0 b1 b2).mono fun e W' ⟨he, hb⟩ => ?_
  subst he
  exact ⟨_, rfl, _, _, _, [], _, [], hW', trodAll_mk1 (shut_bool Tryd.underlying4 _), trodAll_mk3 (Below.trod topLends_j1 (by kernel_rfl) (of_decide_eq_true (by kernel_rfl)) hk0 hb hlt0) (Below.trod topLends_j1 (by kernel_rfl) (of_decide_eq_true (by kernel_rfl)) hk1 hb hlt1) (Below.trod topLends_j1 (by kernel_rfl) (of_decide_eq_true (by kernel_rfl)) hk2 hb hlt2), rfl, hb.frame _, fun h => by cases h⟩

theorem topLends_named : Tryd.prog.funcNamed "bulla/bullatop.TopLends" = some 3 := by kernel_rfl
theorem topLends_said : Rows.TopLendsSaid :=
  OpenClaim.holds_of_wide 3 Tryd.f3 rfl rfl rfl rfl rfl rfl rfl ⟨rfl, rfl, rfl, rfl, rfl⟩ rfl rfl rfl rfl rfl topLends_named Tryd.func3 topLends_facts
    (of_decide_eq_true (by kernel_rfl)) (by unfold Func.isWrapper; first | (rw [if_pos (by decide +kernel)]; kernel_rfl) | (rw [if_neg (by decide +kernel)]; exact ⟨rfl, rfl⟩))
    (fun os started H enc _ => topLends_lifted os started H enc)
theorem topLends_stand : ([25, 31, 32].all fun u => !Tryd.prog.wantsStandIn u) = true := by kernel_rfl
theorem topLends_wf : Rows.topLendsRow.wfByText (OpenSpec.ofChange Rows.topLendsSpec) = true := by kernel_rfl
theorem topLends_goes : false = Rows.topLendsRow.goesBy Tryd.prog := by kernel_rfl

theorem topLends_holds : Rows.TopLendsCardSaid :=
  Claim7.holds_tied_plain_at .later [] [.data] true (true, "be980a39ee4d150f70b0cadf5c237cd5cf9b3988b8b2081e5f562fc8da3714a9") false
    topLends_said (fun _ h => by cases h) topLends_wf (fun _ h => by cases h) topLends_row_tie rfl ⟨rfl, rfl⟩ main_is rfl
    (fun f fn hf hfn => by
      obtain rfl : f = 3 := (Option.some.inj (topLends_named.symm.trans hf)).symm
      obtain rfl : fn = Tryd.f3 := (Option.some.inj (Tryd.func3.symm.trans hfn)).symm
      exact ⟨no_looks, fun j t ht => by
        rw [Tryd.params3] at ht
        have hm : t ∈ ([25, 31, 32] : List TypeId) := by simpa using Array.mem_of_getElem? ht
        exact (show Tryd.prog.wantsStandIn t = false by simpa using List.all_eq_true.1 topLends_stand t hm)⟩)
    topLends_goes
#print axioms topLends_holds
end Go.Proofs.YthpjeclhignciaaDoor
