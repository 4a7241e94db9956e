/- works: its examples, computed. works: the walk: it returns true. MetroRatioMakes: the walk. Common to all rows of this seat: what the listed variable gives; the witness's heap. -/
import Derived.Test.YtmibpncmebhbjaaDoorP9
import Derived.Test.YtmibpncmebhbjaaDoorRows
import Derived.ProofKit
import Derived.LaidMore
import Derived.OpenShut
import Derived.Stop.Joined
namespace Go.Proofs.YtmibpncmebhbjaaDoor
section
open Go Go.RowKit Go.Shelf

theorem ex_ratio : ratioF 6 (-4) = ⟨-3, 2, 0⟩ := by kernel_rfl
theorem ex_zero : ratioF 1 0 = ⟨0, 0, 9⟩ := by kernel_rfl
theorem ex_big : ratioF 1 1048577 = ⟨0, 0, 6⟩ := by kernel_rfl
theorem ex_add : opF 1 3 1 6 (fit (rat 1 3 + rat 1 6)) = ⟨1, 2, 0⟩ := by kernel_rfl
theorem ex_floor : floorV (-1) 6 = .tuple #[.int .i64 (-1), .agg #[.int .i64 5, .int .i64 6], .int .i64 0] := by kernel_rfl
theorem ex_counts : splitL (stdL[2]'(by decide)).nm (stdL[2]'(by decide)).us 947 = [2, 3, 1, 0, 1, 0] := by kernel_rfl
theorem ex_new : (newF stdL exB).1 = 0 := by kernel_rfl
theorem ex_whole : wholeV (newF stdL exB).2 ⟨#[119, 101, 105, 103, 104, 116]⟩ 2000 ⟨#[103, 114, 97, 105, 110]⟩ = .tuple #[.agg #[.string ⟨#[103, 114, 97, 105, 110]⟩, .int .i64 1], .agg #[.int .i64 23, .int .i64 27], .int .i64 0] := by kernel_rfl
theorem ex_factor : factorF (newF stdL exB).2 ⟨#[99, 111, 117, 110, 116]⟩ ⟨#[103, 114, 97, 105, 110]⟩ = ⟨0, 0, 13⟩ := by kernel_rfl
end

section
open Go Go.RowKit Go.Shelf
attribute [local go_sem] rrV

/-- A store into a block of another type. -/
theorem BookO.setFar {w : World} {base Bk bm : Nat} {lv gv fv : Value} {st : St} (h : BookO w base Bk bm lv gv fv st) {p : Addr} {C : Array Value} (hp : w.heap[p.block]? = some (.cells C 23 (0, 0))) {old : Value} (ho : w.cell? p = some old) (hold : ∀ m : Int, old ≠ .int .u64 m) (x : Value) :
    BookO (w.setCell p x) base Bk bm lv gv fv st := by
  obtain ⟨ps, e, h1, h2⟩ := h.lads
  obtain ⟨qs, h3, h4, h5⟩ := h.fac
  exact ⟨h.blk.otherT hp (by decide) _, h.hB, h.hm, ⟨ps, e, h1.setOther hp (by decide) _, fun q hq => (h2 q hq).setOther hp (by decide) _⟩, h.place.setCell _ _, own_otherT h.grp hp (by decide) _, ⟨qs, own_otherT h3 hp (by decide) _, h4, fun k a b => (h5 k a b).setOther ho hold _⟩⟩

set_option maxRecDepth 100000 in
set_option maxHeartbeats 2000000 in
theorem works_any (w : World) (hz : Zw w) : Calls Tryd.prog 27 #[] w fun e w' => e = .returned (.bool true) ∧ Below w.heap.size w w' := by
  have C1 : Hid (∀ w', Below w.heap.size w w' → Calls Tryd.prog 46 #[.int .i64 6, .int .i64 (-4)] w' fun e w'' => e = .returned (.tuple #[.agg #[.int .i64 (-3), .int .i64 2], .bool true]) ∧ Below w'.heap.size w' w'') := fun w' hb => by
    have := lawratio_any 6 (-4) w' (hz.below hb) (by decide) (by decide) (by decide) (by decide)
    rwa [ex_ratio] at this
  have C2 : Hid (∀ w', Below w.heap.size w w' → Calls Tryd.prog 21 #[.int .i64 1, .int .i64 0] w' fun e w'' => e = .returned (.tuple #[.agg #[.int .i64 0, .int .i64 0], .int .i64 9]) ∧ Below w'.heap.size w' w'') := fun w' hb => by
    have := ratio_any 1 0 w' (hz.below hb) (by decide) (by decide) (by decide) (by decide)
    rwa [ex_zero] at this
  have C3 : Hid (∀ w', Below w.heap.size w w' → Calls Tryd.prog 21 #[.int .i64 1, .int .i64 1048577] w' fun e w'' => e = .returned (.tuple #[.agg #[.int .i64 0, .int .i64 0], .int .i64 6]) ∧ Below w'.heap.size w' w'') := fun w' hb => by
    have := ratio_any 1 1048577 w' (hz.below hb) (by decide) (by decide) (by decide) (by decide)
    rwa [ex_big] at this
  have C4 : Hid (∀ w', Below w.heap.size w w' → Calls Tryd.prog 39 #[.agg #[.int .i64 1, .int .i64 3], .agg #[.int .i64 1, .int .i64 6]] w' fun e w'' => e = .returned (.tuple #[.agg #[.int .i64 1, .int .i64 2], .int .i64 0]) ∧ Below w'.heap.size w' w'') := fun w' hb => by
    have := add_any 1 3 1 6 w' (hz.below hb) (by unfold Bd; decide) (by unfold Bd; decide) (by unfold Bd; decide) (by unfold Bd; decide)
    rwa [ex_add] at this
  have C5 : Hid (∀ w', Below w.heap.size w w' → Calls Tryd.prog 48 #[.agg #[.int .i64 (-1), .int .i64 6]] w' fun e w'' => e = .returned (.tuple #[.int .i64 (-1), .agg #[.int .i64 5, .int .i64 6], .int .i64 0]) ∧ Below w'.heap.size w' w'') := fun w' hb => by
    have := floor_any (-1) 6 w' (hz.below hb) (by unfold Bd; decide) (by unfold Bd; decide)
    rwa [ex_floor] at this
  have C6 : Hid (∀ w', Calls Tryd.prog 92 #[.int .i64 2, .int .i64 947] w' fun e w'' => ∃ A n c, e = .returned (.slice A n c) ∧ Sl w'' 1 (.slice A n c) ([2, 3, 1, 0, 1, 0].map (Value.int .i64)) ∧ Below w'.heap.size w' w'') := fun w' => by
    have hc : Calls Tryd.prog 92 #[.int .i64 2, .int .i64 947] w' _ := counts_any 2 947 w' (by decide) (by decide)
    refine hc.mono ?_
    rintro e w'' ⟨v, rfl, h1, h2⟩
    have h1 : Sl w'' 1 v ([2, 3, 1, 0, 1, 0].map (Value.int .i64)) := Eq.mp (congrArg (fun l => Sl w'' 1 v (l.map (Value.int .i64))) ex_counts) h1
    obtain ⟨A, n, c, rfl, h3⟩ := h1.shape
    exact ⟨A, n, c, rfl, h3, h2⟩
  have C7 : Hid (∀ (a b : Value) (w' : World), Sl w' 1 a ([2, 3, 1, 0, 1, 0].map (Value.int .i64)) → Sl w' 1 b ([2, 3, 1, 0, 1, 0].map (Value.int .i64)) → Calls Tryd.prog 55 #[a, b] w' fun e w'' => e = .returned (.bool true) ∧ Below w'.heap.size w' w'') := fun a b w' h1 h2 => by
    have := eqInts_any a b [2, 3, 1, 0, 1, 0] [2, 3, 1, 0, 1, 0] w' h1 h2
    simpa using this
  have C8 : Hid (∀ w', Calls Tryd.prog 83 #[] w' fun e w'' => ∃ A n c, e = .returned (.slice A n c) ∧ LadsV w'' (.slice A n c) stdL ∧ Below w'.heap.size w' w'') := fun w' => by
    refine (standard_any w').mono ?_
    rintro e w'' ⟨v, rfl, h1, h2⟩
    obtain ⟨A, c, rfl, _⟩ := h1.open
    exact ⟨A, _, c, rfl, h1, h2⟩
  have C9 : Hid (∀ w', Calls Tryd.prog 93 #[] w' fun e w'' => ∃ A n c, e = .returned (.slice A n c) ∧ Sl w'' 6 (.slice A n c) (brsV exB) ∧ Below w'.heap.size w' w'') := fun w' => by
    refine (bridges_any w').mono ?_
    rintro e w'' ⟨v, rfl, h1, h2⟩
    obtain ⟨A, n, c, rfl, h3⟩ := h1.shape
    exact ⟨A, n, c, rfl, h3, h2⟩
  have C10 : Hid (∀ (a b : Value) (w' : World), LadsV w' a stdL → Sl w' 6 b (brsV exB) → Calls Tryd.prog 35 #[a, b] w' fun e w'' => ∃ Bk bm lv gv fv, e = .returned (.tuple #[.pointer (some ⟨Bk, 0, none⟩), .int .i64 0]) ∧ BookO w'' w'.heap.size Bk bm lv gv fv (newF stdL exB).2 ∧ Below w'.heap.size w' w'') := fun a b w' h1 h2 => by
    refine (newbook_any stdL exB a b w' h1 h2 0 (newF stdL exB).2 (by rw [← ex_new])).mono ?_
    rintro e w'' ⟨r, rfl, h3, _, h4⟩
    obtain ⟨Bk, bm, lv, gv, fv, rfl, h5⟩ := h4 rfl
    exact ⟨Bk, bm, lv, gv, fv, rfl, h5, h3⟩
  have C11 : Hid (∀ (Bk bm base : Nat) (lv gv fv : Value) (w' : World), Below w.heap.size w w' → BookO w' base Bk bm lv gv fv (newF stdL exB).2 → Calls Tryd.prog 38 #[.pointer (some ⟨Bk, 0, none⟩), .agg #[.string ⟨#[119, 101, 105, 103, 104, 116]⟩, .int .i64 2000], .string ⟨#[103, 114, 97, 105, 110]⟩] w' fun e w'' => e = .returned (.tuple #[.agg #[.string ⟨#[103, 114, 97, 105, 110]⟩, .int .i64 1], .agg #[.int .i64 23, .int .i64 27], .int .i64 0]) ∧ Below w'.heap.size w' w'') := fun Bk bm base lv gv fv w' hb hO => by
    have := whole_any Bk bm lv gv fv (newF stdL exB).2 ⟨#[119, 101, 105, 103, 104, 116]⟩ ⟨#[103, 114, 97, 105, 110]⟩ 2000 w' hO.view (good_new ex_new) (hz.below hb)
    rwa [ex_whole] at this
  have C12 : Hid (∀ (Bk bm base : Nat) (lv gv fv : Value) (w' : World), BookO w' base Bk bm lv gv fv (newF stdL exB).2 → Calls Tryd.prog 41 #[.pointer (some ⟨Bk, 0, none⟩), .string ⟨#[99, 111, 117, 110, 116]⟩, .string ⟨#[103, 114, 97, 105, 110]⟩] w' fun e w'' => e = .returned (.tuple #[.agg #[.int .i64 0, .int .i64 0], .int .i64 13]) ∧ Below w'.heap.size w' w'') := fun Bk bm base lv gv fv w' hO => by
    have := factor_any Bk bm lv gv fv (newF stdL exB).2 ⟨#[99, 111, 117, 110, 116]⟩ ⟨#[103, 114, 97, 105, 110]⟩ w' hO.view (good_new ex_new)
    rwa [ex_factor] at this
  clear hz
  go_enter Tryd.func27, Tryd.ntmps27
  go_wp2_with (first
    | (go_at_call 46; refine (C1.out _ (Below.refl _ _)).mono ?_; rintro e w1 ⟨rfl, hb1⟩; have HB1 := Lib.hid hb1; clear hb1)
    | (go_at_call_of 21 (Value.int IntKind.i64 0); refine (C2.out _ (HB1.out.alloc HB1.out.size _)).mono ?_; rintro e w2 ⟨rfl, hb2⟩; have HB2 := Lib.hid ((HB1.out.alloc HB1.out.size (.cells #[.int .i64 (-3), .int .i64 2] 23)).trans (hb2.mono (HB1.out.alloc HB1.out.size (.cells #[.int .i64 (-3), .int .i64 2] 23)).size)); have HY2 := Lib.hid (celBelow (Cel.new w1 23 #[.int .i64 (-3), .int .i64 2]) hb2); clear hb2)
    | (go_at_call_of 21 (Value.int IntKind.i64 1048577); refine (C3.out _ (HB2.out.alloc HB2.out.size _)).mono ?_; rintro e w3 ⟨rfl, hb3⟩; have HB3 := Lib.hid ((HB2.out.alloc HB2.out.size (.cells #[.int .i64 0, .int .i64 0] 23)).trans (hb3.mono (HB2.out.alloc HB2.out.size (.cells #[.int .i64 0, .int .i64 0] 23)).size)); have HY3 := Lib.hid (celBelow (HY2.out.alloc (.cells #[.int .i64 0, .int .i64 0] 23)) hb3); clear hb3)
    | (go_at_call 39; refine (C4.out _ (HB3.out.alloc HB3.out.size _)).mono ?_; rintro e w4 ⟨rfl, hb4⟩; have HB4 := Lib.hid ((HB3.out.alloc HB3.out.size (.cells #[.int .i64 0, .int .i64 0] 23)).trans (hb4.mono (HB3.out.alloc HB3.out.size (.cells #[.int .i64 0, .int .i64 0] 23)).size)); have hy4 := (celBelow (HY3.out.alloc (.cells #[.int .i64 0, .int .i64 0] 23)) hb4).alloc (.cells #[.int .i64 1, .int .i64 2] 23); obtain ⟨y0, y1, y2, y3⟩ := box2i hy4; clear hb4)
    | (go_at_call 48; refine (C5.out _ (HB4.out.alloc HB4.out.size _)).mono ?_; rintro e w5 ⟨rfl, hb5⟩; have HB5 := Lib.hid ((HB4.out.alloc HB4.out.size (.cells #[.int .i64 1, .int .i64 2] 23)).trans (hb5.mono (HB4.out.alloc HB4.out.size (.cells #[.int .i64 1, .int .i64 2] 23)).size)); clear hb5)
    | (go_at_call 92; refine (C6.out _).mono ?_; rintro e w6 ⟨A6, n6, c6, rfl, hs6, hb6⟩; have HB6 := Lib.hid ((HB5.out.alloc HB5.out.size (.cells #[.int .i64 5, .int .i64 6] 23)).trans (hb6.mono (HB5.out.alloc HB5.out.size (.cells #[.int .i64 5, .int .i64 6] 23)).size)); have HY6 := Lib.hid (celBelow (Cel.new w5 23 #[.int .i64 5, .int .i64 6]) hb6); have HS6 := Lib.hid hs6; clear hb6 hs6)
    | (go_at_call 55; refine (C7.out _ _ _ (HS6.out.alloc _) (Sl.new (s := 1) w6 3 6 6 #[.int .i64 2, .int .i64 3, .int .i64 1, .int .i64 0, .int .i64 1, .int .i64 0] rfl (Nat.le_refl 6) (by decide))).mono ?_; rintro e w7 ⟨rfl, hb7⟩; have HB7 := Lib.hid ((HB6.out.alloc HB6.out.size (.cells #[.int .i64 2, .int .i64 3, .int .i64 1, .int .i64 0, .int .i64 1, .int .i64 0] 3)).trans (hb7.mono (HB6.out.alloc HB6.out.size (.cells #[.int .i64 2, .int .i64 3, .int .i64 1, .int .i64 0, .int .i64 1, .int .i64 0] 3)).size)); have HY7 := Lib.hid (celBelow (HY6.out.alloc (.cells #[.int .i64 2, .int .i64 3, .int .i64 1, .int .i64 0, .int .i64 1, .int .i64 0] 3)) hb7); clear hb7)
    | (go_at_call 83; refine (C8.out _).mono ?_; rintro e w8 ⟨A8, n8, c8, rfl, hs8, hb8⟩; have HB8 := Lib.hid (HB7.out.trans (hb8.mono HB7.out.size)); have HY8 := Lib.hid (celBelow HY7.out hb8); have HS8 := Lib.hid hs8; clear hb8 hs8)
    | (go_at_call 93; refine (C9.out _).mono ?_; rintro e w9 ⟨A9, n9, c9, rfl, hs9, hb9⟩; have HB9 := Lib.hid (HB8.out.trans (hb9.mono HB8.out.size)); have HY9 := Lib.hid (celBelow HY8.out hb9); have HS9 := Lib.hid hs9; have HL9 := Lib.hid (HS8.out.below hb9); clear hb9 hs9)
    | (go_at_call 35; refine (C10.out _ _ _ HL9.out HS9.out).mono ?_; rintro e w10 ⟨Bk, bm, lv, gv, fv, rfl, hO10, hb10⟩; have HB10 := Lib.hid (HB9.out.trans (hb10.mono HB9.out.size)); have HY10 := Lib.hid (celBelow HY9.out hb10); have HO10 := Lib.hid hO10; clear hb10 hO10)
    | (go_at_call 38; refine (C11.out _ _ _ _ _ _ _ HB10.out HO10.out).mono ?_; rintro e w11 ⟨rfl, hb11⟩; have HB11 := Lib.hid ((HB10.out.trans (hb11.mono HB10.out.size)).alloc (HB10.out.trans (hb11.mono HB10.out.size)).size (.cells #[.string ⟨#[103, 114, 97, 105, 110]⟩, .int .i64 1] 51)); have hy11 := (celBelow HY10.out hb11).alloc (.cells #[.string ⟨#[103, 114, 97, 105, 110]⟩, .int .i64 1] 51); obtain ⟨k0, k1, k2, k3⟩ := box2i hy11; have hO12 := ((HO10.out.below hb11).below (below_alloc' _ (.cells #[.string ⟨#[103, 114, 97, 105, 110]⟩, .int .i64 1] 51))).setFar (p := ⟨w5.heap.size, 0, none⟩) hy11 k0 (fun m e => by cases e) (.int .i64 23); have hO13 := hO12.setFar (p := ⟨w5.heap.size, 1, none⟩) (hy11.setAt 0 (.int .i64 23)) ((hy11.setAt 0 (.int .i64 23)).cell 1 (.int .i64 6) rfl) (fun m e => by cases e) (.int .i64 27); have HO13 := Lib.hid hO13; have HY11 := Lib.hid hy11; have HYA := Lib.hid (Cel.new w11 51 #[.string ⟨#[103, 114, 97, 105, 110]⟩, .int .i64 1]); have HNE := Lib.hid (show w5.heap.size ≠ w11.heap.size by have := (celBelow HY10.out hb11).lt; omega); have HB12 := Lib.hid ((HB11.out.setCell (p := ⟨w5.heap.size, 0, none⟩) HB5.out.size (.int .i64 23)).setCell (p := ⟨w5.heap.size, 1, none⟩) HB5.out.size (.int .i64 27)); clear hb11 hO12 hO13)
    | (go_at_call 41; refine (C12.out _ _ _ _ _ _ _ HO13.out).mono ?_; rintro e w12 ⟨rfl, hb12⟩; have HB13 := Lib.hid ((HB12.out.trans (hb12.mono HB12.out.size)).alloc (HB12.out.trans (hb12.mono HB12.out.size)).size (.cells #[.int .i64 0, .int .i64 0] 23)); have hyA := (celBelow ((HYA.out.other (p := ⟨w5.heap.size, 0, none⟩) HNE.out (.int .i64 23)).other (p := ⟨w5.heap.size, 1, none⟩) HNE.out (.int .i64 27)) hb12).alloc (.cells #[.int .i64 0, .int .i64 0] 23); have hyR := (celBelow ((HY11.out.setAt 0 (.int .i64 23)).setAt 1 (.int .i64 27)) hb12).alloc (.cells #[.int .i64 0, .int .i64 0] 23); have m0 := hyA.cell 0 (.string ⟨#[103, 114, 97, 105, 110]⟩) rfl; have m1 := hyA.cell 1 (.int .i64 1) rfl; have m2 := hyR.cell 0 (.int .i64 23) rfl; have m3 := hyR.cell 1 (.int .i64 27) rfl; clear hyA hyR hb12))
  go_ret
  exact ⟨rfl, HB13.out⟩
end

section
open Go Go.RowKit Go.Shelf
attribute [local go_sem] rrV

set_option maxRecDepth 100000 in
set_option maxHeartbeats 2000000 in
theorem ratioMakes_any (n d : Int) (s : ByteArray) (w : World) (hz : Zw w) (h1 : -9223372036854775808 ≤ n) (h2 : n ≤ 9223372036854775807) (h3 : -9223372036854775808 ≤ d) (h4 : d ≤ 9223372036854775807) (hs : (s.size : Int) ≤ 9223372036854775807) :
    Calls Tryd.prog 3 #[.int .i64 n, .int .i64 d, .string s] w fun e w' => e = .returned (.bool true) ∧ Below w.heap.size w w' := by
  have C1 := Lib.hid (ratio_any n d w hz h1 h2 h3 h4)
  have C2 := Lib.hid (fun w' => rratio_any n d w' h1 h2 h3 h4)
  have C3 := Lib.hid (fun w' => isRatio_any n d w' h1 h2 h3 h4)
  have C4 := Lib.hid (fun w' => risRatio_any n d w' h1 h2 h3 h4)
  have C5 := Lib.hid (fun w' => isName_any s w' hs)
  have C6 := Lib.hid (fun w' => risName_any s w' hs)
  have C7 : Hid (∀ w', Below w.heap.size w w' → Calls Tryd.prog 27 #[] w' fun e w'' => e = .returned (.bool true) ∧ Below w'.heap.size w' w'') := fun w' hb => works_any w' (hz.below hb)
  clear hz h1 h2 h3 h4 hs
  generalize ratioF n d = r at *
  generalize isR n d = ir at *
  generalize nameB s = nb at *
  obtain ⟨N, D, E⟩ := r
  go_enter Tryd.func3, Tryd.ntmps3
  go_wp2_with (first
    | (go_at_call 21; refine C1.out.mono ?_; rintro e w1 ⟨rfl, hb1⟩; have HB1 := Lib.hid hb1; clear hb1)
    | (go_at_call 22; refine (C2.out _).mono ?_; rintro e w2 ⟨rfl, hb2⟩; have HB2 := Lib.hid ((HB1.out.alloc HB1.out.size (.cells #[.int .i64 N, .int .i64 D] 23)).trans (hb2.mono (HB1.out.alloc HB1.out.size (.cells #[.int .i64 N, .int .i64 D] 23)).size)); have HY2 := Lib.hid (celBelow (Cel.new w1 23 #[.int .i64 N, .int .i64 D]) hb2); clear hb2))
  obtain ⟨V, hV⟩ : ∃ V, (w2.alloc (.cells #[.int .i64 N, .int .i64 D] 23)).alloc (.cells #[.int .i64 n, .int .i64 d] 23) = V := ⟨_, rfl⟩
  have hbV : Below w.heap.size w V := by
    rw [← hV]
    exact (HB2.out.alloc HB2.out.size _).alloc (HB2.out.alloc HB2.out.size _).size _
  have y7 : Cel V w1.heap.size 23 #[.int .i64 N, .int .i64 D] := by rw [← hV]; exact (HY2.out.alloc _).alloc _
  have y9 : Cel V w2.heap.size 23 #[.int .i64 N, .int .i64 D] := by rw [← hV]; exact (Cel.new w2 _ _).alloc _
  have y11 : Cel V (w2.heap.size + 1) 23 #[.int .i64 n, .int .i64 d] := by rw [← hV]; exact Cel.at _ _ _ _ (by simp)
  have HBV := Lib.hid hbV
  have HK : Hid (∀ w', Below V.heap.size V w' → w'.cell? ⟨w1.heap.size, 0, none⟩ = some (.int .i64 N) ∧ w'.cell? ⟨w1.heap.size, 1, none⟩ = some (.int .i64 D) ∧ w'.cell? ⟨w2.heap.size, 0, none⟩ = some (.int .i64 N) ∧ w'.cell? ⟨w2.heap.size, 1, none⟩ = some (.int .i64 D) ∧ w'.cell? ⟨w2.heap.size + 1, 0, none⟩ = some (.int .i64 n) ∧ w'.cell? ⟨w2.heap.size + 1, 1, none⟩ = some (.int .i64 d)) := by
    intro w' hb'
    have z7 := celBelow y7 hb'
    have z9 := celBelow y9 hb'
    have z11 := celBelow y11 hb'
    exact ⟨z7.cell 0 _ rfl, z7.cell 1 _ rfl, z9.cell 0 _ rfl, z9.cell 1 _ rfl, z11.cell 0 _ rfl, z11.cell 1 _ rfl⟩
  rw [hV]
  clear hV hbV y7 y9 y11
  go_region_held3? (fun w' => w'.cell? ⟨w1.heap.size, 0, none⟩ = some (.int .i64 N) ∧ w'.cell? ⟨w1.heap.size, 1, none⟩ = some (.int .i64 D) ∧ w'.cell? ⟨w2.heap.size, 0, none⟩ = some (.int .i64 N) ∧ w'.cell? ⟨w2.heap.size, 1, none⟩ = some (.int .i64 D) ∧ w'.cell? ⟨w2.heap.size + 1, 0, none⟩ = some (.int .i64 n) ∧ w'.cell? ⟨w2.heap.size + 1, 1, none⟩ = some (.int .i64 d))
    (first | exact HK.out _ (below_undrew (Below.refl _ _)) | exact HK.out _ hb7 | exact HK.out _ hb6 | exact HK.out _ hb5 | exact HK.out _ hb4 | exact HK.out _ hb3) (first
    | (go_at_call 23; refine (C3.out _).mono ?_; rintro e w3 ⟨rfl, hb3'⟩; have hb3 : Below V.heap.size V w3 := below_undrew hb3')
    | (go_at_call 24; refine (C4.out _).mono ?_; rintro e w4 ⟨rfl, hb4'⟩; have hb4 : Below V.heap.size V w4 := below_then hb3 hb4')
    | (go_at_call 25; refine (C5.out _).mono ?_; rintro e w5 ⟨rfl, rfl⟩)
    | (go_at_call 26; refine (C6.out _).mono ?_; rintro e w6 ⟨rfl, rfl⟩)
    | (go_at_call 27; refine (C7.out _ (HBV.out.trans (hb4.mono HBV.out.size))).mono ?_; rintro e w7 ⟨rfl, hb7'⟩; have hb7 : Below V.heap.size V w7 := below_then hb4 hb7'))
  all_goals (
    go_wp2
    go_ret
    exact ⟨rfl, HBV.out.trans (hb7.mono HBV.out.size)⟩)
end

section
open Go Go.ChangeShapes Go.WideShapes Go.ChangeAt Go.WideMaps Go.WideElems Go.RowKit

abbrev laidZ : List (String × DataW Unit) := [("bulla/metro.zero", Rows.laid_bulla_metro_zero)]
theorem own : ownKnob Tryd.prog.godebug = none := by kernel_rfl
theorem gZero : Tryd.prog.globalNamed "bulla/metro.zero" = some 0 := by kernel_rfl
theorem tZero : (Tryd.prog.globals[0]?).map (·.type) = some 23 := by kernel_rfl
theorem door_met (os : Os) (args : Array Value) : laidMetH Tryd.prog laidZ ((World.doorLaid Tryd.prog 400 os).forCall (fun _ _ => 0) ⟨#[], args, []⟩).memory :=
  laidMetH_of_parts3 (fuel := 8) (laidMet_of_run' 8 (by kernel_rfl) (by kernel_rfl)) (by kernel_rfl) (by kernel_rfl)
/-- What the condition gives the walks. -/
theorem of_laid {W : World} (h : laidMetH Tryd.prog laidZ W) : Zw W := by
  rw [MakeChecks.laidMetH_plain _ _ _ (by kernel_rfl)] at h
  obtain ⟨ps, ⟨g0, t0, cs0, f0, p0, q0, hg0, ht0, hv0, hd0, _, _⟩, _, _⟩ := h
  obtain rfl := Option.some.inj (gZero.symm.trans hg0)
  obtain rfl := Option.some.inj (tZero.symm.trans ht0)
  obtain ⟨y0, y1, n, hx, hl, h0, h1⟩ := trod_struct2 Tryd.underlying23 hd0
  have c3 : Tryd.prog.cellsOf 3 = 1 := by kernel_rfl
  rw [c3] at h0 h1
  obtain ⟨m0, e0, x0, _⟩ := DataW.trod_int Tryd.underlying3 h0
  obtain ⟨m1, e1, x1, _⟩ := DataW.trod_int Tryd.underlying3 h1
  subst x0
  subst x1
  simp only [Rows.laid_bulla_metro_zero, Prod.mk.injEq, DataW.agg.injEq, List.cons.injEq, DataW.lit.injEq, Lit.int.injEq, true_and, and_true] at hx
  obtain ⟨⟨rfl, rfl⟩, _⟩ := hx
  have g0 := World.var?_cell hg0 hv0 0
  have g1 := World.var?_cell hg0 hv0 1
  obtain ⟨l⟩ := cs0
  match l, e0, e1 with
  | a :: b :: l, e0, e1 =>
    simp at e0 e1
    subst e0
    subst e1
    exact ⟨by simpa using g0, by simpa using g1⟩
  | [a], e0, e1 => simp at e1
  | [], e0, e1 => simp at e0
end
end Go.Proofs.YtmibpncmebhbjaaDoor
