/- PeopleDeedsMeet: the walk. Conditions: those stated. -/
import Derived.Test.YtdmcopjbckelmaaGreatDoorZU5
import Derived.Test.YtdmcopjbckelmaaGreatDoorZU6
import Derived.Test.YtdmcopjbckelmaaGreatDoorZIB
import Derived.Test.YtdmcopjbckelmaaGreatDoorZH
namespace Go.Proofs.YtdmcopjbckelmaaGreatDoor
open Go Go.RowKit Go.Shelf
attribute [local go_sem] Oper.semAt_some

set_option maxRecDepth 100000 in
set_option maxHeartbeats 8000000 in
theorem deedsMeet_any (A : Option Addr) (c : Nat) (a b : ByteArray) (ds : List De) (w : World) (h : DeedsV w (.slice A ds.length c) ds) (hs : ShortDs ds) (hw : WtDs ds) (hz : Zw w) :
    Calls Tryz.prog 4 #[.slice A ds.length c, .string a, .string b] w fun e w' => e = .returned (.bool true) ∧ Below w.heap.size w w' := by
  have HB0 := Lib.hid (Below.refl w.heap.size w)
  have HWk := Lib.hid (fun w' hb => works_any w' (hz.below hb))
  have HCo := Lib.hid (fun w' (hb : Below w.heap.size w w') => copyDeeds_any (.slice A ds.length c) ds w' (h.below hb) hw)
  have HTo := Lib.hid (fun v w' (hd : DeedsV w' v ds) => together_any v ds a b w' hd hs)
  have HRt := Lib.hid (fun w' (hb : Below w.heap.size w w') => rTogether_any (.slice A ds.length c) ds a b w' (h.below hb) hs)
  have HCh := Lib.hid (fun v w' (hd : DeedsV w' v ds) => chain_any v ds a b w' hd hs)
  have HRc := Lib.hid (fun w' (hb : Below w.heap.size w w') => rchain_any (.slice A ds.length c) ds a b w' (h.below hb) hs)
  have HEq := Lib.hid (fun (x y : Value) (l : List ByteArray) w' (hx : Sl w' 1 x (namesV l)) (hy : Sl w' 1 y (namesV l)) => show Calls Tryz.prog 21 #[x, y] w' fun e w'' => e = .returned (.bool true) ∧ Below w'.heap.size w' w'' from by
    have q := eqTexts_any x y l l w' hx hy
    rw [show decide (l = l) = true from decide_eq_true rfl] at q
    exact q)
  have HSa := Lib.hid (fun v w' (hd : DeedsV w' v ds) (hb : Below w.heap.size w w') => sameDeeds_any v (.slice A ds.length c) ds w' hd (h.below hb))
  unfold ChainR at HCh HRc
  generalize togV ds a b = tv at *
  generalize checkDF ds = te at *
  generalize chE ds a b = ce at *
  generalize chL ds a b = cl at *
  have b1 : (tv == tv) = true := by simp
  have b2 : (te == te) = true := by simp
  have b3 : (ce == ce) = true := by simp
  clear h hs hw hz
  go_enter Tryz.func4, Tryz.ntmps4
  go_wp2_with fail
  refine (HCo.out _ HB0.out).mono ?_
  rintro e w1 ⟨hb1, v1, rfl, hd1⟩
  have HB1 := Lib.hid (HB0.out.trans (hb1.mono HB0.out.size))
  obtain ⟨A1, c1, rfl, hd1⟩ := hd1.shape
  have HD1 := Lib.hid hd1
  clear hd1
  clear hb1
  go_wp2_with fail
  refine (HTo.out _ _ HD1.out).mono ?_
  rintro e w2 ⟨rfl, hb2⟩
  have HB2 := Lib.hid (HB1.out.trans (hb2.mono HB1.out.size))
  replace HD1 := Lib.hid (HD1.out.below hb2)
  clear hb2
  go_wp2_with fail
  refine (HRt.out _ HB2.out).mono ?_
  rintro e w3 ⟨rfl, hb3⟩
  have HB3 := Lib.hid (HB2.out.trans (hb3.mono HB2.out.size))
  replace HD1 := Lib.hid (HD1.out.below hb3)
  clear hb3
  go_wp2_with fail
  refine (HCh.out _ _ HD1.out).mono ?_
  rintro e w4 ⟨hb4, vx, rfl, hx⟩
  have HB4 := Lib.hid (HB3.out.trans (hb4.mono HB3.out.size))
  replace HD1 := Lib.hid (HD1.out.below hb4)
  obtain ⟨Ax, nx, cx, rfl, hx⟩ := hx.shape
  have HX := Lib.hid hx
  clear hx
  clear hb4
  go_wp2_with fail
  refine (HRc.out _ HB4.out).mono ?_
  rintro e w5 ⟨hb5, vy, rfl, hy⟩
  have HB5 := Lib.hid (HB4.out.trans (hb5.mono HB4.out.size))
  replace HD1 := Lib.hid (HD1.out.below hb5)
  replace HX := Lib.hid (HX.out.below hb5)
  obtain ⟨Ay, ny, cy, rfl, hy⟩ := hy.shape
  have HYy := Lib.hid hy
  clear hy
  clear hb5
  go_wp2_with fail
  refine (HEq.out _ _ _ _ HX.out HYy.out).mono ?_
  rintro e w6 ⟨rfl, hb6⟩
  have HB6 := Lib.hid (HB5.out.trans (hb6.mono HB5.out.size))
  replace HD1 := Lib.hid (HD1.out.below hb6)
  clear hb6
  go_wp2_with fail
  refine (HSa.out _ _ HD1.out HB6.out).mono ?_
  rintro e w7 ⟨rfl, hb7⟩
  have HB7 := Lib.hid (HB6.out.trans (hb7.mono HB6.out.size))
  clear hb7
  go_wp2_with fail
  refine (HWk.out _ HB7.out).mono ?_
  rintro e wz ⟨rfl, hbz⟩
  have HBz := Lib.hid (HB7.out.trans (hbz.mono HB7.out.size))
  clear hbz
  go_wp2
  go_ret
  exact ⟨rfl, HBz.out⟩
theorem deedsMeet_all (v : Value) (a b : ByteArray) (ds : List De) (w : World) (h : DeedsV w v ds) (hs : ShortDs ds) (hz : Zw w) (hw : WtDs ds) :
    Calls Tryz.prog 4 #[v, .string a, .string b] w fun e w' => e = .returned (.bool true) ∧ Below w.heap.size w w' := by
  obtain ⟨A, c, rfl, h⟩ := h.shape
  exact deedsMeet_any A c a b ds w h hs hw hz
end Go.Proofs.YtdmcopjbckelmaaGreatDoor
