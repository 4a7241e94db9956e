/- PeopleDeedsCheck: the walk. Conditions: those stated. -/
import Derived.Test.YtdmcopjbckelmaaGreatDoorZU5
import Derived.Test.YtdmcopjbckelmaaGreatDoorZU8
import Derived.Test.YtdmcopjbckelmaaGreatDoorZU9
import Derived.Test.YtdmcopjbckelmaaGreatDoorZUB
import Derived.Test.YtdmcopjbckelmaaGreatDoorZUD
import Derived.Test.YtdmcopjbckelmaaGreatDoorZH
namespace Go.Proofs.YtdmcopjbckelmaaGreatDoor
open Go Go.RowKit Go.Shelf
attribute [local go_sem] Oper.semAt_some

theorem same2_nets (qs : List ByteArray) (gs : List Fa) (A1 : Option Addr) (n1 c1 : Nat) (F1 : Option Addr) (m1 d1 : Nat) (A2 : Option Addr) (n2 c2 : Nat) (F2 : Option Addr) (m2 d2 : Nat) (w' : World) (hw : NetC w' A1 n1 c1 F1 m1 d1 qs gs) (hw2 : NetC w' A2 n2 c2 F2 m2 d2 qs gs) :
    Calls Tryz.prog 14 #[.agg #[.slice A1 n1 c1, .slice F1 m1 d1], .agg #[.slice A2 n2 c2, .slice F2 m2 d2]] w' fun e w'' => e = .returned (.bool true) ∧ Below w'.heap.size w' w'' := by
  obtain ⟨e1, e2, _⟩ := hw.many
  obtain ⟨e3, e4, _⟩ := hw2.many
  subst e1; subst e2; subst e3; subst e4
  exact same2_any A1 c1 F1 d1 A2 c2 F2 d2 qs gs w' hw hw2
/-- The cells of a list of circles. -/
theorem cir_at {w : World} {v : Value} {cs : List (List ByteArray)} (h : CirV w v cs) : ∃ A c, v = .slice A cs.length c ∧ cs.length ≤ c ∧ (c : Int) ≤ 9223372036854775807 ∧ (0 < cs.length → ∃ b o, A = some ⟨b, o, none⟩ ∧ b < w.heap.size ∧ ∀ (k : Nat) l, cs[k]? = some l → ∃ Au nu cu, w.cell? ⟨b, o + k, none⟩ = some (.slice Au nu cu) ∧ Sl w 1 (.slice Au nu cu) (namesV l)) := by
  obtain ⟨vs, h1, h2, h3⟩ := h
  obtain ⟨A, n, c, rfl, hl, hc, hm, hcl⟩ := h2.open2 (by decide)
  obtain rfl : n = cs.length := by omega
  refine ⟨A, c, rfl, hc, hm, fun hn => ?_⟩
  obtain ⟨b, o, rfl, hb, hce⟩ := hcl hn
  refine ⟨b, o, rfl, hb, fun k l hk => ?_⟩
  have hkl := (List.getElem?_eq_some_iff.1 hk).1
  have hu : vs[k]? = some (vs[k]'(by omega)) := List.getElem?_eq_getElem (by omega)
  have hs := h3 k _ l hu hk
  have hc := hce k _ hu
  obtain ⟨Au, nu, cu, e, hs'⟩ := hs.shape
  rw [e] at hc
  exact ⟨Au, nu, cu, hc, hs'⟩
set_option maxRecDepth 100000 in
set_option maxHeartbeats 8000000 in
theorem deedsCheck_any (A : Option Addr) (c : Nat) (ds : List De) (w : World) (h : DeedsV w (.slice A ds.length c) ds) (hs : ShortDs ds) (hw : WtDs ds) (hz : Zw w) :
    Calls Tryz.prog 9 #[.slice A ds.length c] w fun e w' => e = .returned (.bool true) ∧ Below w.heap.size w w' := by
  have HB0 := Lib.hid (Below.refl w.heap.size w)
  have HWk := Lib.hid (fun w' hb => works_any w' (hz.below hb))
  have HCo := Lib.hid (fun w' (hb : Below w.heap.size w w') => copyDeeds_any (.slice A ds.length c) ds w' (h.below hb) hw)
  have HFd := Lib.hid (fun v w' (hd : DeedsV w' v ds) => fromDeeds_any v ds w' hd hs)
  have HRf := Lib.hid (fun w' (hb : Below w.heap.size w w') => rfromDeeds_any (.slice A ds.length c) ds w' (h.below hb) hs)
  have HCk := Lib.hid (fun v w' (hd : DeedsV w' v ds) => checkDeeds_any v ds w' hd hs)
  have HRk := Lib.hid (fun w' (hb : Below w.heap.size w w') => rcheckDeeds_any (.slice A ds.length c) ds w' (h.below hb) hs)
  have HCi := Lib.hid (fun v w' (hd : DeedsV w' v ds) => circles_any v ds w' hd hs)
  have HRi := Lib.hid (fun w' (hb : Below w.heap.size w w') => rcircles_any (.slice A ds.length c) ds w' (h.below hb) hs)
  have HSe := Lib.hid (fun v w' (hd : DeedsV w' v ds) => seals_any v ds w' hd hs)
  have HRe := Lib.hid (fun w' (hb : Below w.heap.size w w') => rseals_any (.slice A ds.length c) ds w' (h.below hb) hs)
  have HEq := Lib.hid (fun (x y : Value) (l : List ByteArray) w' (hx : Sl w' 1 x (namesV l)) (hy : Sl w' 1 y (namesV l)) => show Calls Tryz.prog 21 #[x, y] w' fun e w'' => e = .returned (.bool true) ∧ Below w'.heap.size w' w'' from by
    have q := eqTexts_any x y l l w' hx hy
    rw [show decide (l = l) = true from decide_eq_true rfl] at q
    exact q)
  have HSa := Lib.hid (fun v w' (hd : DeedsV w' v ds) (hb : Below w.heap.size w w') => sameDeeds_any v (.slice A ds.length c) ds w' hd (h.below hb))
  have HSb := Lib.hid same2_nets
  unfold MergeP at HFd HRf
  unfold CircP at HCi HRi
  unfold NamesP at HSe HRe
  generalize (if checkDF ds = 0 then circlesF ds else []) = cs at *
  generalize (if checkDF ds = 0 then sealsF ds else []) = sl at *
  generalize checkDF ds = te at *
  obtain ⟨⟨qs, gs, er⟩, hmv⟩ : ∃ r, fromD ds = r := ⟨_, rfl⟩
  rw [hmv] at HFd HRf
  simp only at HFd HRf
  have b1 : (te == te) = true := by simp
  have b2 : (er == er) = true := by simp
  clear h hs hw hz hmv
  go_enter Tryz.func9, Tryz.ntmps9
  go_wp2_with fail
  refine (HCo.out _ HB0.out).mono ?_
  rintro e w1 ⟨hb1, v1, rfl, hd1⟩
  have HB1 := Lib.hid (HB0.out.trans (hb1.mono HB0.out.size))
  obtain ⟨A1, c1, rfl, hd1⟩ := hd1.shape
  have HD1 := Lib.hid hd1
  clear hd1
  clear hb1
  go_wp2_with fail
  refine (HFd.out _ _ HD1.out).mono ?_
  rintro e w2 ⟨hb2, A2, n2, c2, F2, m2, d2, rfl, hn2⟩
  have HB2 := Lib.hid (HB1.out.trans (hb2.mono HB1.out.size))
  replace HD1 := Lib.hid (HD1.out.below hb2)
  have HN2 := Lib.hid hn2
  clear hn2
  clear hb2
  have l0 := (Cel.new w2 25 #[.slice none 0 0, .slice none 0 0]).cell 0 _ rfl
  have l1 := (Cel.new w2 25 #[.slice none 0 0, .slice none 0 0]).cell 1 _ rfl
  have l2 := (Cel.new w2 25 #[.slice none 0 0, .slice none 0 0]).frozen 0
  have l3 := (Cel.new w2 25 #[.slice none 0 0, .slice none 0 0]).frozen 1
  go_upto_region 3 with fail
  clear l0 l1 l2 l3
  have HO := Lib.hid (Cel.new w2 25 #[.slice A2 n2 c2, .slice F2 m2 d2])
  have hb3 := below_alloc' w2 (.cells #[.slice A2 n2 c2, .slice F2 m2 d2] 25)
  obtain ⟨BHO, hBHO⟩ : ∃ B, w2.heap.size = B := ⟨_, rfl⟩
  generalize w2.alloc (.cells #[.slice A2 n2 c2, .slice F2 m2 d2] 25) = w3 at *
  have HB3 := Lib.hid (HB2.out.trans (hb3.mono HB2.out.size))
  replace HD1 := Lib.hid (HD1.out.below hb3)
  replace HN2 := Lib.hid (HN2.out.below hb3)
  rw [hBHO] at HO ⊢
  clear hb3 hBHO
  have cHO0 := HO.out.cell 0 _ rfl
  have cHO1 := HO.out.cell 1 _ rfl
  go_wp2_with fail
  clear cHO0 cHO1
  refine (HRf.out _ HB3.out).mono ?_
  rintro e w4 ⟨hb4, A3, n3, c3, F3, m3, d3, rfl, hn3⟩
  have HB4 := Lib.hid (HB3.out.trans (hb4.mono HB3.out.size))
  replace HO := Lib.hid (HO.out.below HO.out.lt hb4)
  replace HD1 := Lib.hid (HD1.out.below hb4)
  replace HN2 := Lib.hid (HN2.out.below hb4)
  have HN3 := Lib.hid hn3
  clear hn3
  clear hb4
  have cHO0 := HO.out.cell 0 _ rfl
  have cHO1 := HO.out.cell 1 _ rfl
  have l0 := (Cel.new w4 25 #[.slice none 0 0, .slice none 0 0]).cell 0 _ rfl
  have l1 := (Cel.new w4 25 #[.slice none 0 0, .slice none 0 0]).cell 1 _ rfl
  have l2 := (Cel.new w4 25 #[.slice none 0 0, .slice none 0 0]).frozen 0
  have l3 := (Cel.new w4 25 #[.slice none 0 0, .slice none 0 0]).frozen 1
  go_upto_region 4 with fail
  clear l0 l1 l2 l3
  clear cHO0 cHO1
  have HP := Lib.hid (Cel.new w4 25 #[.slice A3 n3 c3, .slice F3 m3 d3])
  have hb5 := below_alloc' w4 (.cells #[.slice A3 n3 c3, .slice F3 m3 d3] 25)
  obtain ⟨BHP, hBHP⟩ : ∃ B, w4.heap.size = B := ⟨_, rfl⟩
  generalize w4.alloc (.cells #[.slice A3 n3 c3, .slice F3 m3 d3] 25) = w5 at *
  have HB5 := Lib.hid (HB4.out.trans (hb5.mono HB4.out.size))
  replace HO := Lib.hid (HO.out.below HO.out.lt hb5)
  replace HD1 := Lib.hid (HD1.out.below hb5)
  replace HN2 := Lib.hid (HN2.out.below hb5)
  replace HN3 := Lib.hid (HN3.out.below hb5)
  rw [hBHP] at HP ⊢
  clear hb5 hBHP
  have cHO0 := HO.out.cell 0 _ rfl
  have cHO1 := HO.out.cell 1 _ rfl
  have cHP0 := HP.out.cell 0 _ rfl
  have cHP1 := HP.out.cell 1 _ rfl
  go_wp2_with fail
  clear cHO0 cHO1 cHP0 cHP1
  refine (HCk.out _ _ HD1.out).mono ?_
  rintro e w6 ⟨rfl, hb6⟩
  have HB6 := Lib.hid (HB5.out.trans (hb6.mono HB5.out.size))
  replace HO := Lib.hid (HO.out.below HO.out.lt hb6)
  replace HP := Lib.hid (HP.out.below HP.out.lt hb6)
  replace HD1 := Lib.hid (HD1.out.below hb6)
  replace HN2 := Lib.hid (HN2.out.below hb6)
  replace HN3 := Lib.hid (HN3.out.below hb6)
  clear hb6
  have cHO0 := HO.out.cell 0 _ rfl
  have cHO1 := HO.out.cell 1 _ rfl
  have cHP0 := HP.out.cell 0 _ rfl
  have cHP1 := HP.out.cell 1 _ rfl
  go_wp2_with fail
  clear cHO0 cHO1 cHP0 cHP1
  refine (HRk.out _ HB6.out).mono ?_
  rintro e w7 ⟨rfl, hb7⟩
  have HB7 := Lib.hid (HB6.out.trans (hb7.mono HB6.out.size))
  replace HO := Lib.hid (HO.out.below HO.out.lt hb7)
  replace HP := Lib.hid (HP.out.below HP.out.lt hb7)
  replace HD1 := Lib.hid (HD1.out.below hb7)
  replace HN2 := Lib.hid (HN2.out.below hb7)
  replace HN3 := Lib.hid (HN3.out.below hb7)
  clear hb7
  have cHO0 := HO.out.cell 0 _ rfl
  have cHO1 := HO.out.cell 1 _ rfl
  have cHP0 := HP.out.cell 0 _ rfl
  have cHP1 := HP.out.cell 1 _ rfl
  go_wp2_with fail
  clear cHO0 cHO1 cHP0 cHP1
  refine (HSb.out _ _ A2 n2 c2 F2 m2 d2 A3 n3 c3 F3 m3 d3 _ HN2.out HN3.out).mono ?_
  rintro e w8 ⟨rfl, hb8⟩
  have HB8 := Lib.hid (HB7.out.trans (hb8.mono HB7.out.size))
  replace HO := Lib.hid (HO.out.below HO.out.lt hb8)
  replace HP := Lib.hid (HP.out.below HP.out.lt hb8)
  replace HD1 := Lib.hid (HD1.out.below hb8)
  clear HN2 HN3
  clear hb8
  have cHO0 := HO.out.cell 0 _ rfl
  have cHO1 := HO.out.cell 1 _ rfl
  have cHP0 := HP.out.cell 0 _ rfl
  have cHP1 := HP.out.cell 1 _ rfl
  go_wp2_with fail
  clear cHO0 cHO1 cHP0 cHP1
  refine (HCi.out _ _ HD1.out).mono ?_
  rintro e w9 ⟨hb9, vx, rfl, hx⟩
  have HB9 := Lib.hid (HB8.out.trans (hb9.mono HB8.out.size))
  replace HO := Lib.hid (HO.out.below HO.out.lt hb9)
  replace HP := Lib.hid (HP.out.below HP.out.lt hb9)
  replace HD1 := Lib.hid (HD1.out.below hb9)
  obtain ⟨Ax, cx, rfl, hx1, hx2, _⟩ := cir_at hx
  have HX := Lib.hid hx
  clear hx
  clear hb9
  have cHO0 := HO.out.cell 0 _ rfl
  have cHO1 := HO.out.cell 1 _ rfl
  have cHP0 := HP.out.cell 0 _ rfl
  have cHP1 := HP.out.cell 1 _ rfl
  go_wp2_with fail
  clear cHO0 cHO1 cHP0 cHP1
  refine (HRi.out _ HB9.out).mono ?_
  rintro e w10 ⟨hb10, vy, rfl, hy⟩
  have HB10 := Lib.hid (HB9.out.trans (hb10.mono HB9.out.size))
  replace HO := Lib.hid (HO.out.below HO.out.lt hb10)
  replace HP := Lib.hid (HP.out.below HP.out.lt hb10)
  replace HD1 := Lib.hid (HD1.out.below hb10)
  replace HX := Lib.hid (HX.out.below hb10)
  obtain ⟨Ay, cy, rfl, hy1, hy2, _⟩ := cir_at hy
  have HV := Lib.hid hy
  clear hy
  clear hb10
  have cHO0 := HO.out.cell 0 _ rfl
  have cHO1 := HO.out.cell 1 _ rfl
  have cHP0 := HP.out.cell 0 _ rfl
  have cHP1 := HP.out.cell 1 _ rfl
  clear cHO0 cHO1 cHP0 cHP1
  clear HO HP
  have b3 : ((cs.length : Int) == (cs.length : Int)) = true := by simp
  obtain ⟨_, _, e1, _, _, hcx⟩ := cir_at HX.out
  cases e1
  obtain ⟨_, _, e1, _, _, hcy⟩ := cir_at HV.out
  cases e1
  have HCx := Lib.hid hcx
  have HCy := Lib.hid hcy
  have HU0 := Lib.hid (Below.refl w10.heap.size w10)
  clear hcx hcy HX HV
  go_wp2
  go_loopw [8, 11] (fun t8 ti wr => ∃ j : Nat, ti = .int .i64 j ∧ t8 = .bool true ∧ j ≤ cs.length ∧ Hid (Below w10.heap.size w10 wr)) (fun _ ti _ => cs.length - (intOf ti).toNat)
  case atStart => exact ⟨0, rfl, rfl, by omega, HU0.out⟩
  case round =>
    clear HU0
    obtain ⟨j, rfl, rfl, hj, HU⟩ := hrel
    by_cases hlt : j < cs.length
    · have hji : (j : Int) < (cs.length : Int) := by omega
      have hj0 : (0 : Int) ≤ (j : Int) := by omega
      obtain ⟨bx, ox, rfl, _, hcx⟩ := HCx.out (by omega)
      obtain ⟨by', oy, rfl, _, hcy⟩ := HCy.out (by omega)
      obtain ⟨l, hl⟩ : ∃ l, cs[j]? = some l := ⟨_, List.getElem?_eq_getElem hlt⟩
      obtain ⟨Au, nu, cu, hu, hsu⟩ := hcx j l hl
      obtain ⟨Av, nv, cv, hv, hsv⟩ := hcy j l hl
      have x0 := below_cell HU.out hu
      have y0 := below_cell HU.out hv
      have HQ := Lib.hid (fun n => (eqTexts_q (.slice Au nu cu) (.slice Av nv cv) l (wr.drewN n) ((hsu.below HU.out).drewN n) ((hsv.below HU.out).drewN n)).mono (R' := fun e w'' => e = .returned (.bool true) ∧ ∃ m, w'' = wr.drewN m) (fun e w'' q => ⟨q.1, by obtain ⟨m, hm⟩ := q.2; exact ⟨n + m, by rw [hm]; exact World.drewN_drewN _ _ _⟩⟩))
      clear hcx hcy hl hu hv hsu hsv
      go_upto_region 12 with fail
      go_quiet ((go_at_call 21; exact HQ.out _))
      go_wp2
      exact ⟨⟨j + 1, by go_num, rfl, by omega, below_drewN HU.out _⟩, by simp [intOf]; omega⟩
    · have HBr := Lib.hid (HB10.out.trans (HU.out.mono HB10.out.size))
      replace HD1 := Lib.hid (HD1.out.below HU.out)
      clear HCx HCy HU HB10
      generalize wr = w10 at *
      have HB10 := HBr
      clear HBr
      go_wp2_with fail
      refine (HSe.out _ _ HD1.out).mono ?_
      rintro e w11 ⟨hb11, vs, rfl, hs1⟩
      have HB11 := Lib.hid (HB10.out.trans (hb11.mono HB10.out.size))
      replace HD1 := Lib.hid (HD1.out.below hb11)
      obtain ⟨As, ns, cs', rfl, hs1⟩ := hs1.shape
      have HX := Lib.hid hs1
      clear hs1
      clear hb11
      go_wp2_with fail
      refine (HRe.out _ HB11.out).mono ?_
      rintro e w12 ⟨hb12, vt, rfl, hs2⟩
      have HB12 := Lib.hid (HB11.out.trans (hb12.mono HB11.out.size))
      replace HD1 := Lib.hid (HD1.out.below hb12)
      replace HX := Lib.hid (HX.out.below hb12)
      obtain ⟨At, nt, ct, rfl, hs2⟩ := hs2.shape
      have HV := Lib.hid hs2
      clear hs2
      clear hb12
      go_wp2_with fail
      refine (HEq.out _ _ _ _ HX.out HV.out).mono ?_
      rintro e w13 ⟨rfl, hb13⟩
      have HB13 := Lib.hid (HB12.out.trans (hb13.mono HB12.out.size))
      replace HD1 := Lib.hid (HD1.out.below hb13)
      clear hb13
      go_wp2_with fail
      refine (HSa.out _ _ HD1.out HB13.out).mono ?_
      rintro e w14 ⟨rfl, hb14⟩
      have HB14 := Lib.hid (HB13.out.trans (hb14.mono HB13.out.size))
      clear hb14
      go_wp2_with fail
      refine (HWk.out _ HB14.out).mono ?_
      rintro e wz ⟨rfl, hbz⟩
      have HBz := Lib.hid (HB14.out.trans (hbz.mono HB14.out.size))
      clear hbz
      go_wp2
      go_ret
      exact ⟨rfl, HBz.out⟩
theorem deedsCheck_all (v : Value) (ds : List De) (w : World) (h : DeedsV w v ds) (hs : ShortDs ds) (hz : Zw w) (hw : WtDs ds) :
    Calls Tryz.prog 9 #[v] w fun e w' => e = .returned (.bool true) ∧ Below w.heap.size w w' := by
  obtain ⟨A, c, rfl, h⟩ := h.shape
  exact deedsCheck_any A c ds w h hs hw hz
end Go.Proofs.YtdmcopjbckelmaaGreatDoor
