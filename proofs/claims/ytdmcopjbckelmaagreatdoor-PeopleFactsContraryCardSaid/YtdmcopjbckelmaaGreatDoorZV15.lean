/- PeopleFactsContrary: the walk. Conditions: those stated. -/
import Derived.Test.YtdmcopjbckelmaaGreatDoorZU16
import Derived.Test.YtdmcopjbckelmaaGreatDoorZG3
import Derived.Test.YtdmcopjbckelmaaGreatDoorZH
namespace Go.Proofs.YtdmcopjbckelmaaGreatDoor
open Go Go.RowKit Go.Shelf
attribute [local go_sem] Oper.semAt_some

set_option maxRecDepth 100000 in
set_option maxHeartbeats 8000000 in
theorem factsContrary_any (A : Option Addr) (c : Nat) (F : Option Addr) (d : Nat) (most : Int) (l : List Int) (Al : Option Addr) (cl : Nat) (ps : List ByteArray) (fs : List Fa) (w : World) (h : NetC w A ps.length c F fs.length d ps fs) (hs : Short ps) (hl : Sl w 1 (.slice Al l.length cl) (l.map (Value.int .i64))) (hz : Zw w) (hps : ps.length * 16 ≤ 140737488351232) (hfs : fs.length * 48 ≤ 140737488351232) (hls : l.length * 8 ≤ 140737488351232) :
    Calls Tryz.prog 5 #[.agg #[.slice A ps.length c, .slice F fs.length d], .int .i64 most, .slice Al l.length cl] w fun e w' => e = .returned (.bool true) ∧ Below w.heap.size w w' := by
  have HB0 := Lib.hid (below_alloc' w (.cells #[.slice A ps.length c, .slice F fs.length d] 25))
  have HY := Lib.hid (Cel.new w 25 #[.slice A ps.length c, .slice F fs.length d])
  have HWk := Lib.hid (fun w' hb => works_any w' (hz.below hb))
  have HCo := Lib.hid (fun w' (hw : Below w.heap.size w w') => copy_any A ps.length c F fs.length d ps fs w' (h.below hw) (by omega) (by omega))
  have HCi := Lib.hid (fun w' (hw : Below w.heap.size w w') => (copyInts_any (.slice Al l.length cl) l w' (hl.below hw) (by omega)).mono (R' := fun e w'' => Below w'.heap.size w' w'' ∧ ∃ A n c, e = .returned (.slice A n c) ∧ Sl w'' 1 (.slice A n c) (l.map (Value.int .i64))) (fun e w'' ⟨v', h1, h2, h3⟩ => by
    obtain ⟨A, c, rfl, h3⟩ := own_shape h3
    exact ⟨h2, A, _, c, h1, Sl.of_own h3⟩))
  have HC1 := Lib.hid (fun A c F d w' (hw : NetC w' A ps.length c F fs.length d ps fs) => contr_any A ps.length c F fs.length d ps fs most w' hw hs)
  have HC2 := Lib.hid (fun w' (hw : Below w.heap.size w w') => rcontr_any A c F d ps fs most w' (h.below hw) hs)
  have HW1 := Lib.hid (fun A c F d v w' (hw : NetC w' A ps.length c F fs.length d ps fs) (hv : Sl w' 1 v (l.map (Value.int .i64))) => without_any A c F d ps fs v l w' hw hs hv)
  have HW2 := Lib.hid (fun w' (hw : Below w.heap.size w w') => rwithout_any A c F d ps fs (.slice Al l.length cl) l w' (h.below hw) hs (hl.below hw))
  have HSa := Lib.hid (fun A1 c1 F1 d1 w' (hw : NetC w' A1 ps.length c1 F1 fs.length d1 ps fs) (hb : Below w.heap.size w w') => same2_any A1 c1 F1 d1 A c F d ps fs w' hw (h.below hb))
  have HSb := Lib.hid (fun (qs : List ByteArray) (gs : List Fa) A1 n1 c1 F1 m1 d1 A2 n2 c2 F2 m2 d2 w' (hw : NetC w' A1 n1 c1 F1 m1 d1 qs gs) (hw2 : NetC w' A2 n2 c2 F2 m2 d2 qs gs) => show Calls Tryz.prog 14 #[.agg #[.slice A1 n1 c1, .slice F1 m1 d1], .agg #[.slice A2 n2 c2, .slice F2 m2 d2]] w' fun e w'' => e = .returned (.bool true) ∧ Below w'.heap.size w' w'' from by
    obtain ⟨e1, e2, _⟩ := hw.many
    obtain ⟨e3, e4, _⟩ := hw2.many
    subst e1; subst e2; subst e3; subst e4
    exact same2_any A1 c1 F1 d1 A2 c2 F2 d2 qs gs w' hw hw2)
  have HEi := Lib.hid (fun (x y : Value) (l : List Int) w' (hx : Sl w' 1 x (l.map (Value.int .i64))) (hy : Sl w' 1 y (l.map (Value.int .i64))) => show Calls Tryz.prog 26 #[x, y] w' fun e w'' => e = .returned (.bool true) ∧ Below w'.heap.size w' w'' from by
    have q := eqInts_any x y l l w' hx hy
    rw [show decide (l = l) = true from decide_eq_true rfl] at q
    exact q)
  have HLl := Lib.hid (fun w' (hw : Below w.heap.size w w') => hl.below hw)
  unfold ContrP at HC1 HC2
  unfold MergeP at HW1 HW2
  obtain ⟨⟨cs, er⟩, hcv⟩ : ∃ r, contrV ps fs most = r := ⟨_, rfl⟩
  obtain ⟨⟨qs, gs, fr⟩, hwv⟩ : ∃ r, woV ps fs l = r := ⟨_, rfl⟩
  rw [hcv] at HC1 HC2
  rw [hwv] at HW1 HW2
  simp only at HC1 HC2 HW1 HW2
  have b1 : (er == er) = true := by simp
  have b2 : (fr == fr) = true := by simp
  clear h hs hl hz hps hfs hls hcv hwv
  have cHY0 := HY.out.cell 0 _ rfl
  have cHY1 := HY.out.cell 1 _ rfl
  go_enter Tryz.func5, Tryz.ntmps5
  go_wp2_with fail
  clear cHY0 cHY1
  refine (HCo.out _ HB0.out).mono ?_
  rintro e w1 ⟨hb1, A1, c1, F1, d1, rfl, hn1⟩
  have HB1 := Lib.hid (HB0.out.trans (hb1.mono HB0.out.size))
  replace HY := Lib.hid (HY.out.below HY.out.lt hb1)
  have HN1 := Lib.hid hn1
  clear hn1
  clear hb1
  have cHY0 := HY.out.cell 0 _ rfl
  have cHY1 := HY.out.cell 1 _ rfl
  go_wp2_with fail
  clear cHY0 cHY1
  refine (HCi.out _ HB1.out).mono ?_
  rintro e w2 ⟨hb2, A2, n2, c2, rfl, hs2⟩
  have HB2 := Lib.hid (HB1.out.trans (hb2.mono HB1.out.size))
  replace HY := Lib.hid (HY.out.below HY.out.lt hb2)
  replace HN1 := Lib.hid (HN1.out.below hb2)
  have HL2 := Lib.hid hs2
  clear hs2
  clear hb2
  have cHY0 := HY.out.cell 0 _ rfl
  have cHY1 := HY.out.cell 1 _ rfl
  have l0 := (Cel.new w2 25 #[.slice none 0 0, .slice none 0 0]).cell 0 _ rfl
  have l1 := (Cel.new w2 25 #[.slice none 0 0, .slice none 0 0]).cell 1 _ rfl
  have l2 := (Cel.new w2 25 #[.slice none 0 0, .slice none 0 0]).frozen 0
  have l3 := (Cel.new w2 25 #[.slice none 0 0, .slice none 0 0]).frozen 1
  go_upto_region 2 with fail
  clear l0 l1 l2 l3
  clear cHY0 cHY1
  have HO := Lib.hid (Cel.new w2 25 #[.slice A1 ps.length c1, .slice F1 fs.length d1])
  have hb3 := below_alloc' w2 (.cells #[.slice A1 ps.length c1, .slice F1 fs.length d1] 25)
  obtain ⟨BHO, hBHO⟩ : ∃ B, w2.heap.size = B := ⟨_, rfl⟩
  generalize w2.alloc (.cells #[.slice A1 ps.length c1, .slice F1 fs.length d1] 25) = w3 at *
  have HB3 := Lib.hid (HB2.out.trans (hb3.mono HB2.out.size))
  replace HY := Lib.hid (HY.out.below HY.out.lt hb3)
  replace HN1 := Lib.hid (HN1.out.below hb3)
  replace HL2 := Lib.hid (HL2.out.below hb3)
  rw [hBHO] at HO ⊢
  clear hb3 hBHO
  have cHY0 := HY.out.cell 0 _ rfl
  have cHY1 := HY.out.cell 1 _ rfl
  have cHO0 := HO.out.cell 0 _ rfl
  have cHO1 := HO.out.cell 1 _ rfl
  go_wp2_with fail
  clear cHY0 cHY1 cHO0 cHO1
  refine (HC1.out A1 c1 F1 d1 _ HN1.out).mono ?_
  rintro e w4 ⟨hb4, vx, rfl, hx⟩
  have HB4 := Lib.hid (HB3.out.trans (hb4.mono HB3.out.size))
  replace HY := Lib.hid (HY.out.below HY.out.lt hb4)
  replace HO := Lib.hid (HO.out.below HO.out.lt hb4)
  replace HN1 := Lib.hid (HN1.out.below hb4)
  replace HL2 := Lib.hid (HL2.out.below hb4)
  obtain ⟨Ax, nx, cx, rfl, hx⟩ := hx.shape
  have HX := Lib.hid hx
  rw [nats_ints] at HX
  clear hx
  clear hb4
  have cHY0 := HY.out.cell 0 _ rfl
  have cHY1 := HY.out.cell 1 _ rfl
  have cHO0 := HO.out.cell 0 _ rfl
  have cHO1 := HO.out.cell 1 _ rfl
  go_wp2_with fail
  clear cHY0 cHY1 cHO0 cHO1
  refine (HC2.out _ HB4.out).mono ?_
  rintro e w5 ⟨hb5, vy, rfl, hy⟩
  have HB5 := Lib.hid (HB4.out.trans (hb5.mono HB4.out.size))
  replace HY := Lib.hid (HY.out.below HY.out.lt hb5)
  replace HO := Lib.hid (HO.out.below HO.out.lt hb5)
  replace HN1 := Lib.hid (HN1.out.below hb5)
  replace HL2 := Lib.hid (HL2.out.below hb5)
  replace HX := Lib.hid (HX.out.below hb5)
  obtain ⟨Ay, ny, cy, rfl, hy⟩ := hy.shape
  have HV := Lib.hid hy
  rw [nats_ints] at HV
  clear hy
  clear hb5
  have cHY0 := HY.out.cell 0 _ rfl
  have cHY1 := HY.out.cell 1 _ rfl
  have cHO0 := HO.out.cell 0 _ rfl
  have cHO1 := HO.out.cell 1 _ rfl
  go_wp2_with fail
  clear cHY0 cHY1 cHO0 cHO1
  refine (HEi.out _ _ _ _ HX.out HV.out).mono ?_
  rintro e w6 ⟨rfl, hb6⟩
  have HB6 := Lib.hid (HB5.out.trans (hb6.mono HB5.out.size))
  replace HY := Lib.hid (HY.out.below HY.out.lt hb6)
  replace HO := Lib.hid (HO.out.below HO.out.lt hb6)
  replace HN1 := Lib.hid (HN1.out.below hb6)
  replace HL2 := Lib.hid (HL2.out.below hb6)
  clear hb6
  have cHY0 := HY.out.cell 0 _ rfl
  have cHY1 := HY.out.cell 1 _ rfl
  have cHO0 := HO.out.cell 0 _ rfl
  have cHO1 := HO.out.cell 1 _ rfl
  go_wp2_with fail
  clear cHY0 cHY1 cHO0 cHO1
  refine (HW1.out A1 c1 F1 d1 _ _ HN1.out HL2.out).mono ?_
  rintro e w7 ⟨hb7, A3, n3, c3, F3, m3, d3, rfl, hn3⟩
  have HB7 := Lib.hid (HB6.out.trans (hb7.mono HB6.out.size))
  replace HY := Lib.hid (HY.out.below HY.out.lt hb7)
  replace HO := Lib.hid (HO.out.below HO.out.lt hb7)
  replace HN1 := Lib.hid (HN1.out.below hb7)
  replace HL2 := Lib.hid (HL2.out.below hb7)
  have HN3 := Lib.hid hn3
  clear hn3
  clear hb7
  have cHY0 := HY.out.cell 0 _ rfl
  have cHY1 := HY.out.cell 1 _ rfl
  have cHO0 := HO.out.cell 0 _ rfl
  have cHO1 := HO.out.cell 1 _ rfl
  have l0 := (Cel.new w7 25 #[.slice none 0 0, .slice none 0 0]).cell 0 _ rfl
  have l1 := (Cel.new w7 25 #[.slice none 0 0, .slice none 0 0]).cell 1 _ rfl
  have l2 := (Cel.new w7 25 #[.slice none 0 0, .slice none 0 0]).frozen 0
  have l3 := (Cel.new w7 25 #[.slice none 0 0, .slice none 0 0]).frozen 1
  go_upto_region 6 with fail
  clear l0 l1 l2 l3
  clear cHY0 cHY1 cHO0 cHO1
  have HP := Lib.hid (Cel.new w7 25 #[.slice A3 n3 c3, .slice F3 m3 d3])
  have hb8 := below_alloc' w7 (.cells #[.slice A3 n3 c3, .slice F3 m3 d3] 25)
  obtain ⟨BHP, hBHP⟩ : ∃ B, w7.heap.size = B := ⟨_, rfl⟩
  generalize w7.alloc (.cells #[.slice A3 n3 c3, .slice F3 m3 d3] 25) = w8 at *
  have HB8 := Lib.hid (HB7.out.trans (hb8.mono HB7.out.size))
  replace HY := Lib.hid (HY.out.below HY.out.lt hb8)
  replace HO := Lib.hid (HO.out.below HO.out.lt hb8)
  replace HN1 := Lib.hid (HN1.out.below hb8)
  replace HL2 := Lib.hid (HL2.out.below hb8)
  replace HN3 := Lib.hid (HN3.out.below hb8)
  rw [hBHP] at HP ⊢
  clear hb8 hBHP
  have cHY0 := HY.out.cell 0 _ rfl
  have cHY1 := HY.out.cell 1 _ rfl
  have cHO0 := HO.out.cell 0 _ rfl
  have cHO1 := HO.out.cell 1 _ rfl
  have cHP0 := HP.out.cell 0 _ rfl
  have cHP1 := HP.out.cell 1 _ rfl
  go_wp2_with fail
  clear cHY0 cHY1 cHO0 cHO1 cHP0 cHP1
  refine (HW2.out _ HB8.out).mono ?_
  rintro e w9 ⟨hb9, A4, n4, c4, F4, m4, d4, rfl, hn4⟩
  have HB9 := Lib.hid (HB8.out.trans (hb9.mono HB8.out.size))
  replace HY := Lib.hid (HY.out.below HY.out.lt hb9)
  replace HO := Lib.hid (HO.out.below HO.out.lt hb9)
  replace HP := Lib.hid (HP.out.below HP.out.lt hb9)
  replace HN1 := Lib.hid (HN1.out.below hb9)
  replace HL2 := Lib.hid (HL2.out.below hb9)
  replace HN3 := Lib.hid (HN3.out.below hb9)
  have HN4 := Lib.hid hn4
  clear hn4
  clear hb9
  have cHY0 := HY.out.cell 0 _ rfl
  have cHY1 := HY.out.cell 1 _ rfl
  have cHO0 := HO.out.cell 0 _ rfl
  have cHO1 := HO.out.cell 1 _ rfl
  have cHP0 := HP.out.cell 0 _ rfl
  have cHP1 := HP.out.cell 1 _ rfl
  have l0 := (Cel.new w9 25 #[.slice none 0 0, .slice none 0 0]).cell 0 _ rfl
  have l1 := (Cel.new w9 25 #[.slice none 0 0, .slice none 0 0]).cell 1 _ rfl
  have l2 := (Cel.new w9 25 #[.slice none 0 0, .slice none 0 0]).frozen 0
  have l3 := (Cel.new w9 25 #[.slice none 0 0, .slice none 0 0]).frozen 1
  go_upto_region 7 with fail
  clear l0 l1 l2 l3
  clear cHY0 cHY1 cHO0 cHO1 cHP0 cHP1
  have HQ := Lib.hid (Cel.new w9 25 #[.slice A4 n4 c4, .slice F4 m4 d4])
  have hb10 := below_alloc' w9 (.cells #[.slice A4 n4 c4, .slice F4 m4 d4] 25)
  obtain ⟨BHQ, hBHQ⟩ : ∃ B, w9.heap.size = B := ⟨_, rfl⟩
  generalize w9.alloc (.cells #[.slice A4 n4 c4, .slice F4 m4 d4] 25) = w10 at *
  have HB10 := Lib.hid (HB9.out.trans (hb10.mono HB9.out.size))
  replace HY := Lib.hid (HY.out.below HY.out.lt hb10)
  replace HO := Lib.hid (HO.out.below HO.out.lt hb10)
  replace HP := Lib.hid (HP.out.below HP.out.lt hb10)
  replace HN1 := Lib.hid (HN1.out.below hb10)
  replace HL2 := Lib.hid (HL2.out.below hb10)
  replace HN3 := Lib.hid (HN3.out.below hb10)
  replace HN4 := Lib.hid (HN4.out.below hb10)
  rw [hBHQ] at HQ ⊢
  clear hb10 hBHQ
  have cHY0 := HY.out.cell 0 _ rfl
  have cHY1 := HY.out.cell 1 _ rfl
  have cHO0 := HO.out.cell 0 _ rfl
  have cHO1 := HO.out.cell 1 _ rfl
  have cHP0 := HP.out.cell 0 _ rfl
  have cHP1 := HP.out.cell 1 _ rfl
  have cHQ0 := HQ.out.cell 0 _ rfl
  have cHQ1 := HQ.out.cell 1 _ rfl
  go_wp2_with fail
  clear cHY0 cHY1 cHO0 cHO1 cHP0 cHP1 cHQ0 cHQ1
  refine (HSb.out _ _ A3 n3 c3 F3 m3 d3 A4 n4 c4 F4 m4 d4 _ HN3.out HN4.out).mono ?_
  rintro e w11 ⟨rfl, hb11⟩
  have HB11 := Lib.hid (HB10.out.trans (hb11.mono HB10.out.size))
  replace HY := Lib.hid (HY.out.below HY.out.lt hb11)
  replace HO := Lib.hid (HO.out.below HO.out.lt hb11)
  replace HP := Lib.hid (HP.out.below HP.out.lt hb11)
  replace HQ := Lib.hid (HQ.out.below HQ.out.lt hb11)
  replace HN1 := Lib.hid (HN1.out.below hb11)
  replace HL2 := Lib.hid (HL2.out.below hb11)
  clear hb11
  have cHY0 := HY.out.cell 0 _ rfl
  have cHY1 := HY.out.cell 1 _ rfl
  have cHO0 := HO.out.cell 0 _ rfl
  have cHO1 := HO.out.cell 1 _ rfl
  have cHP0 := HP.out.cell 0 _ rfl
  have cHP1 := HP.out.cell 1 _ rfl
  have cHQ0 := HQ.out.cell 0 _ rfl
  have cHQ1 := HQ.out.cell 1 _ rfl
  go_wp2_with fail
  clear cHY0 cHY1 cHO0 cHO1 cHP0 cHP1 cHQ0 cHQ1
  refine (HSa.out A1 c1 F1 d1 _ HN1.out HB11.out).mono ?_
  rintro e w12 ⟨rfl, hb12⟩
  have HB12 := Lib.hid (HB11.out.trans (hb12.mono HB11.out.size))
  replace HY := Lib.hid (HY.out.below HY.out.lt hb12)
  replace HO := Lib.hid (HO.out.below HO.out.lt hb12)
  replace HP := Lib.hid (HP.out.below HP.out.lt hb12)
  replace HQ := Lib.hid (HQ.out.below HQ.out.lt hb12)
  replace HL2 := Lib.hid (HL2.out.below hb12)
  clear hb12
  have cHY0 := HY.out.cell 0 _ rfl
  have cHY1 := HY.out.cell 1 _ rfl
  have cHO0 := HO.out.cell 0 _ rfl
  have cHO1 := HO.out.cell 1 _ rfl
  have cHP0 := HP.out.cell 0 _ rfl
  have cHP1 := HP.out.cell 1 _ rfl
  have cHQ0 := HQ.out.cell 0 _ rfl
  have cHQ1 := HQ.out.cell 1 _ rfl
  go_wp2_with fail
  clear cHY0 cHY1 cHO0 cHO1 cHP0 cHP1 cHQ0 cHQ1
  refine (HEi.out _ _ _ _ HL2.out (HLl.out _ HB12.out)).mono ?_
  rintro e w13 ⟨rfl, hb13⟩
  have HB13 := Lib.hid (HB12.out.trans (hb13.mono HB12.out.size))
  replace HY := Lib.hid (HY.out.below HY.out.lt hb13)
  replace HO := Lib.hid (HO.out.below HO.out.lt hb13)
  replace HP := Lib.hid (HP.out.below HP.out.lt hb13)
  replace HQ := Lib.hid (HQ.out.below HQ.out.lt hb13)
  clear hb13
  have cHY0 := HY.out.cell 0 _ rfl
  have cHY1 := HY.out.cell 1 _ rfl
  have cHO0 := HO.out.cell 0 _ rfl
  have cHO1 := HO.out.cell 1 _ rfl
  have cHP0 := HP.out.cell 0 _ rfl
  have cHP1 := HP.out.cell 1 _ rfl
  have cHQ0 := HQ.out.cell 0 _ rfl
  have cHQ1 := HQ.out.cell 1 _ rfl
  go_wp2_with fail
  clear cHY0 cHY1 cHO0 cHO1 cHP0 cHP1 cHQ0 cHQ1
  refine (HWk.out _ HB13.out).mono ?_
  rintro e wz ⟨rfl, hbz⟩
  have HBz := Lib.hid (HB13.out.trans (hbz.mono HB13.out.size))
  clear hbz
  go_wp2
  go_ret
  exact ⟨rfl, HBz.out⟩
theorem factsContrary_all (A : Option Addr) (n c : Nat) (F : Option Addr) (m d : Nat) (most : Int) (l : List Int) (Al : Option Addr) (cl : Nat) (ps : List ByteArray) (fs : List Fa) (w : World) (h : NetC w A n c F m d ps fs) (hs : Short ps) (hl : Sl w 1 (.slice Al l.length cl) (l.map (Value.int .i64))) (hz : Zw w) (hw : ps.length * 16 ≤ 140737488351232 ∧ fs.length * 48 ≤ 140737488351232) (hls : l.length * 8 ≤ 140737488351232) :
    Calls Tryz.prog 5 #[.agg #[.slice A n c, .slice F m d], .int .i64 most, .slice Al l.length cl] w fun e w' => e = .returned (.bool true) ∧ Below w.heap.size w w' := by
  obtain ⟨e1, e2, _⟩ := h.many
  subst e1
  subst e2
  exact factsContrary_any A c F d most l Al cl ps fs w h hs hl hz hw.1 hw.2 hls
end Go.Proofs.YtdmcopjbckelmaaGreatDoor
