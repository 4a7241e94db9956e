/- PeopleContrarySmallest: the walk. Conditions: those stated. -/
import Derived.Test.YtdmcopjbckelmaaDoorZB4
import Derived.Test.YtdmcopjbckelmaaDoorZH
namespace Go.Proofs.YtdmcopjbckelmaaDoor
open Go Go.RowKit Go.Shelf
attribute [local go_sem] Oper.semAt_some

set_option maxRecDepth 100000 in
set_option maxHeartbeats 8000000 in
theorem csmall_bad (r : Int) (hr : r = 3 ∨ r = 100 ∨ r = 8) (A : Option Addr) (c : Nat) (F : Option Addr) (d : Nat) (most : Int) (v : Value) (l : List Int) (ps : List ByteArray) (fs : List Fa) (w : World) (h : NetC w A ps.length c F fs.length d ps fs) (hs : Short ps) (hv : Sl w 1 v (l.map (Value.int .i64))) (hz : Zw w) (hm : fs.length * 48 ≤ 140737488351232) (hc : contrV ps fs most = ([], r)) :
    Calls Tryd.prog 9 #[.agg #[.slice A ps.length c, .slice F fs.length d], .int .i64 most, v] w fun e w' => e = .returned (.bool true) ∧ Below w.heap.size w w' := by
  obtain ⟨Al, cl, ev, hcl, hclm, _⟩ := hv.open1
  rw [List.length_map] at ev hcl
  subst ev
  have hb0 := below_alloc' w (.cells #[.slice A ps.length c, .slice F fs.length d] 25)
  have y0 := Cel.new w 25 #[.slice A ps.length c, .slice F fs.length d]
  have HB0 := Lib.hid hb0
  have HY := Lib.hid y0
  have HN := Lib.hid h
  have HWk := Lib.hid (fun w' hb => works_any w' (hz.below hb))
  have HCo := Lib.hid (fun w' (hw : Below w.heap.size w w') => contr_any A ps.length c F fs.length d ps fs most w' (h.below hw) hs)
  have HKe := Lib.hid (fun w' (hw : Below w.heap.size w w') => kept_any A c F d ps fs (.slice Al l.length cl) l w' (h.below hw) (hv.below hw) (by omega))
  have HK2 := Lib.hid (fun (u : Value) (x : List Nat) w' (hw : Below w.heap.size w w') (hu : Sl w' 1 u (natsV x)) => kept_any A c F d ps fs u (intL x) w' (h.below hw) (by rw [← nats_int]; exact hu) (by omega))
  have HCk := Lib.hid (fun w' (hw : Below w.heap.size w w') => check_any A ps.length c F fs.length d ps fs w' (h.below hw) hs)
  have HCs := Lib.hid (fun A1 c1 F1 d1 gs w' (hw : NetC w' A1 ps.length c1 F1 (List.length gs) d1 ps gs) => consistent_any A1 ps.length c1 F1 gs.length d1 ps gs w' hw hs)
  rw [hc] at HCo
  unfold ContrP at HCo
  unfold KeptP at HKe
  simp only at HCo HKe
  have h0 : ([] : List Nat).length = 0 := rfl
  clear h hs hv hz hb0 y0 hc HK2 HCs
  rcases hr with rfl | rfl | rfl
  all_goals
    have cHY0 := HY.out.cell 0 _ rfl
    have cHY1 := HY.out.cell 1 _ rfl
    go_enter Tryd.func9, Tryd.ntmps9
    go_wp2_with fail
    clear cHY0 cHY1
    refine (HCo.out _ HB0.out).mono ?_
    rintro e w1 ⟨hb1, vx, rfl, hx⟩
    have HB1 := Lib.hid (HB0.out.trans (hb1.mono HB0.out.size))
    replace HY := Lib.hid (HY.out.below HY.out.lt hb1)
    have HX := Lib.hid hx
    clear hx
    clear hb1
    have cHY0 := HY.out.cell 0 _ rfl
    have cHY1 := HY.out.cell 1 _ rfl
    obtain ⟨Ax, cx, ex, hxc, hxm, _⟩ := HX.out.open1
    rw [natsV_length] at ex hxc
    subst ex
    go_wp2_with fail
    clear cHY0 cHY1
    refine (HKe.out _ HB1.out).mono ?_
    rintro e w2 ⟨hb2, x1, q1, A1, c1, rfl, ha1, hi1, hq1, hq2⟩
    have HB2 := Lib.hid (HB1.out.trans (hb2.mono HB1.out.size))
    replace HY := Lib.hid (HY.out.below HY.out.lt hb2)
    replace HX := Lib.hid (HX.out.below hb2)
    have HF1 := Lib.hid ha1
    have HI1 := Lib.hid hi1
    have HQ1 := Lib.hid hq1
    have HQ2 := Lib.hid hq2
    clear ha1 hi1 hq1 hq2
    clear hb2
    have cHY0 := HY.out.cell 0 _ rfl
    have cHY1 := HY.out.cell 1 _ rfl
    have l0 := (Cel.new w2 25 #[.slice none 0 0, .slice none 0 0]).cell 0 _ rfl
    have l1 := (Cel.new w2 25 #[.slice none 0 0, .slice none 0 0]).cell 1 _ rfl
    have l2 := (Cel.new w2 25 #[.slice none 0 0, .slice none 0 0]).frozen 0
    have l3 := (Cel.new w2 25 #[.slice none 0 0, .slice none 0 0]).frozen 1
    go_upto_region 3 with fail
    clear l0 l1 l2 l3
    clear cHY0 cHY1
    have HO := Lib.hid (Cel.new w2 25 #[.slice A ps.length c, .slice A1 x1.length c1])
    have hb3 := below_alloc' w2 (.cells #[.slice A ps.length c, .slice A1 x1.length c1] 25)
    obtain ⟨BHO, hBHO⟩ : ∃ B, w2.heap.size = B := ⟨_, rfl⟩
    generalize w2.alloc (.cells #[.slice A ps.length c, .slice A1 x1.length c1] 25) = w3 at *
    have HB3 := Lib.hid (HB2.out.trans (hb3.mono HB2.out.size))
    replace HY := Lib.hid (HY.out.below HY.out.lt hb3)
    replace HX := Lib.hid (HX.out.below hb3)
    replace HF1 := Lib.hid (HF1.out.below hb3)
    rw [hBHO] at HO ⊢
    clear hb3 hBHO
    have cHY0 := HY.out.cell 0 _ rfl
    have cHY1 := HY.out.cell 1 _ rfl
    have cHO0 := HO.out.cell 0 _ rfl
    have cHO1 := HO.out.cell 1 _ rfl
    have HNo : Hid True := Lib.hid trivial
    clear HNo
    go_wp2_with fail
    clear cHY0 cHY1 cHO0 cHO1
    refine (HWk.out _ HB3.out).mono ?_
    rintro e wz ⟨rfl, hbz⟩
    have HBz := Lib.hid (HB3.out.trans (hbz.mono HB3.out.size))
    clear hbz
    go_wp2
    go_ret
    exact ⟨rfl, HBz.out⟩
set_option maxRecDepth 100000 in
set_option maxHeartbeats 8000000 in
theorem csmall_none (A : Option Addr) (c : Nat) (F : Option Addr) (d : Nat) (most : Int) (v : Value) (l : List Int) (ps : List ByteArray) (fs : List Fa) (w : World) (h : NetC w A ps.length c F fs.length d ps fs) (hs : Short ps) (hv : Sl w 1 v (l.map (Value.int .i64))) (hz : Zw w) (hm : fs.length * 48 ≤ 140737488351232) (M : Nat) (hM : most = (M : Int)) (hc : contrV ps fs most = ([], 4)) (hk : checkF ps fs = 0) (H : ∀ x, IdxL fs x → x.length ≤ M → badL ps fs x = false) :
    Calls Tryd.prog 9 #[.agg #[.slice A ps.length c, .slice F fs.length d], .int .i64 most, v] w fun e w' => e = .returned (.bool true) ∧ Below w.heap.size w w' := by
  obtain ⟨Al, cl, ev, hcl, hclm, _⟩ := hv.open1
  rw [List.length_map] at ev hcl
  subst ev
  have hb0 := below_alloc' w (.cells #[.slice A ps.length c, .slice F fs.length d] 25)
  have y0 := Cel.new w 25 #[.slice A ps.length c, .slice F fs.length d]
  have HB0 := Lib.hid hb0
  have HY := Lib.hid y0
  have HN := Lib.hid h
  have HWk := Lib.hid (fun w' hb => works_any w' (hz.below hb))
  have HCo := Lib.hid (fun w' (hw : Below w.heap.size w w') => contr_any A ps.length c F fs.length d ps fs most w' (h.below hw) hs)
  have HKe := Lib.hid (fun w' (hw : Below w.heap.size w w') => kept_any A c F d ps fs (.slice Al l.length cl) l w' (h.below hw) (hv.below hw) (by omega))
  have HK2 := Lib.hid (fun (u : Value) (x : List Nat) w' (hw : Below w.heap.size w w') (hu : Sl w' 1 u (natsV x)) => kept_any A c F d ps fs u (intL x) w' (h.below hw) (by rw [← nats_int]; exact hu) (by omega))
  have HCk := Lib.hid (fun w' (hw : Below w.heap.size w w') => check_any A ps.length c F fs.length d ps fs w' (h.below hw) hs)
  have HCs := Lib.hid (fun A1 c1 F1 d1 gs w' (hw : NetC w' A1 ps.length c1 F1 (List.length gs) d1 ps gs) => consistent_any A1 ps.length c1 F1 gs.length d1 ps gs w' hw hs)
  rw [hc] at HCo
  rw [hk] at HCk
  unfold ContrP at HCo
  unfold KeptP at HKe
  simp only at HCo HKe
  have HG := Lib.hid (fun x (hx : IdxL fs x) => idx_check hk hx)
  have HH := Lib.hid H
  have HM := Lib.hid hM
  clear h hs hv hz hb0 y0 hc HK2 hk H hM
  have cHY0 := HY.out.cell 0 _ rfl
  have cHY1 := HY.out.cell 1 _ rfl
  go_enter Tryd.func9, Tryd.ntmps9
  go_wp2_with fail
  clear cHY0 cHY1
  refine (HCo.out _ HB0.out).mono ?_
  rintro e w1 ⟨hb1, vx, rfl, hx⟩
  have HB1 := Lib.hid (HB0.out.trans (hb1.mono HB0.out.size))
  replace HY := Lib.hid (HY.out.below HY.out.lt hb1)
  have HX := Lib.hid hx
  clear hx
  clear hb1
  have cHY0 := HY.out.cell 0 _ rfl
  have cHY1 := HY.out.cell 1 _ rfl
  obtain ⟨Ax, cx, ex, hxc, hxm, _⟩ := HX.out.open1
  rw [natsV_length] at ex hxc
  subst ex
  go_wp2_with fail
  clear cHY0 cHY1
  refine (HKe.out _ HB1.out).mono ?_
  rintro e w2 ⟨hb2, x1, q1, A1, c1, rfl, ha1, hi1, hq1, hq2⟩
  have HB2 := Lib.hid (HB1.out.trans (hb2.mono HB1.out.size))
  replace HY := Lib.hid (HY.out.below HY.out.lt hb2)
  replace HX := Lib.hid (HX.out.below hb2)
  have HF1 := Lib.hid ha1
  have HI1 := Lib.hid hi1
  have HQ1 := Lib.hid hq1
  have HQ2 := Lib.hid hq2
  clear ha1 hi1 hq1 hq2
  clear hb2
  have cHY0 := HY.out.cell 0 _ rfl
  have cHY1 := HY.out.cell 1 _ rfl
  have l0 := (Cel.new w2 25 #[.slice none 0 0, .slice none 0 0]).cell 0 _ rfl
  have l1 := (Cel.new w2 25 #[.slice none 0 0, .slice none 0 0]).cell 1 _ rfl
  have l2 := (Cel.new w2 25 #[.slice none 0 0, .slice none 0 0]).frozen 0
  have l3 := (Cel.new w2 25 #[.slice none 0 0, .slice none 0 0]).frozen 1
  go_upto_region 3 with fail
  clear l0 l1 l2 l3
  clear cHY0 cHY1
  have HO := Lib.hid (Cel.new w2 25 #[.slice A ps.length c, .slice A1 x1.length c1])
  have hb3 := below_alloc' w2 (.cells #[.slice A ps.length c, .slice A1 x1.length c1] 25)
  obtain ⟨BHO, hBHO⟩ : ∃ B, w2.heap.size = B := ⟨_, rfl⟩
  generalize w2.alloc (.cells #[.slice A ps.length c, .slice A1 x1.length c1] 25) = w3 at *
  have HB3 := Lib.hid (HB2.out.trans (hb3.mono HB2.out.size))
  replace HY := Lib.hid (HY.out.below HY.out.lt hb3)
  replace HX := Lib.hid (HX.out.below hb3)
  replace HF1 := Lib.hid (HF1.out.below hb3)
  rw [hBHO] at HO ⊢
  clear hb3 hBHO
  have cHY0 := HY.out.cell 0 _ rfl
  have cHY1 := HY.out.cell 1 _ rfl
  have cHO0 := HO.out.cell 0 _ rfl
  have cHO1 := HO.out.cell 1 _ rfl
  go_wp2_with fail
  clear cHY0 cHY1 cHO0 cHO1
  refine (HCk.out _ HB3.out).mono ?_
  rintro e w4 ⟨rfl, hb4⟩
  have HB4 := Lib.hid (HB3.out.trans (hb4.mono HB3.out.size))
  replace HY := Lib.hid (HY.out.below HY.out.lt hb4)
  replace HO := Lib.hid (HO.out.below HO.out.lt hb4)
  replace HX := Lib.hid (HX.out.below hb4)
  replace HF1 := Lib.hid (HF1.out.below hb4)
  clear hb4
  have cHY0 := HY.out.cell 0 _ rfl
  have cHY1 := HY.out.cell 1 _ rfl
  have cHO0 := HO.out.cell 0 _ rfl
  have cHO1 := HO.out.cell 1 _ rfl
  have HNo := Lib.hid (show NetC w4 A ps.length c A1 (selF fs x1).length c1 ps (selF fs x1) from ⟨HN.out.people.below HB4.out, by rw [selF_length]; exact HF1.out⟩)
  rw [← selF_length fs x1] at HO ⊢
  clear cHY0 cHY1 cHO0 cHO1
  have cHY0 := HY.out.cell 0 _ rfl
  have cHY1 := HY.out.cell 1 _ rfl
  have cHO0 := HO.out.cell 0 _ rfl
  have cHO1 := HO.out.cell 1 _ rfl
  have HC2 := Lib.hid (HCs.out A c A1 c1 (selF fs x1) _ HNo.out)
  rw [(HG.out x1 HI1.out).1, (HG.out x1 HI1.out).2] at HC2
  obtain ⟨bd, hbd⟩ : ∃ b, badL ps fs x1 = b := ⟨_, rfl⟩
  rw [hbd] at HC2
  have HBd := Lib.hid hbd
  clear hbd
  go_wp2_with fail
  clear cHY0 cHY1 cHO0 cHO1
  refine (HC2.out).mono ?_
  rintro e w5 ⟨rfl, hb5⟩
  have HB5 := Lib.hid (HB4.out.trans (hb5.mono HB4.out.size))
  replace HY := Lib.hid (HY.out.below HY.out.lt hb5)
  replace HO := Lib.hid (HO.out.below HO.out.lt hb5)
  replace HX := Lib.hid (HX.out.below hb5)
  clear hb5
  have cHY0 := HY.out.cell 0 _ rfl
  have cHY1 := HY.out.cell 1 _ rfl
  have cHO0 := HO.out.cell 0 _ rfl
  have cHO1 := HO.out.cell 1 _ rfl
  cases q1 with
  | false =>
    go_wp2_with fail
    clear cHY0 cHY1 cHO0 cHO1
    refine (HWk.out _ HB5.out).mono ?_
    rintro e wz ⟨rfl, hbz⟩
    have HBz := Lib.hid (HB5.out.trans (hbz.mono HB5.out.size))
    clear hbz
    go_wp2
    go_ret
    exact ⟨rfl, HBz.out⟩
  | true =>
    have hlx : l.length = x1.length := by rw [HQ1.out rfl, intL_length]
    by_cases hml : M < l.length
    · have n1 : decide (most < (l.length : Int)) = true := decide_eq_true (by rw [HM.out]; omega)
      have n2 : most < (l.length : Int) := by rw [HM.out]; omega
      clear hlx
      go_wp2_with fail
      refine (HWk.out _ HB5.out).mono ?_
      rintro e wz ⟨rfl, hbz⟩
      have HBz := Lib.hid (HB5.out.trans (hbz.mono HB5.out.size))
      clear hbz
      go_wp2
      go_ret
      exact ⟨rfl, HBz.out⟩
    · have n1 : decide (most < (l.length : Int)) = false := decide_eq_false (by rw [HM.out]; omega)
      have n2 : ¬ most < (l.length : Int) := by rw [HM.out]; omega
      obtain rfl : bd = false := by rw [← HBd.out]; exact HH.out x1 HI1.out (by omega)
      simp only [Bool.not_false]
      clear hlx
      go_wp2_with fail
      refine (HWk.out _ HB5.out).mono ?_
      rintro e wz ⟨rfl, hbz⟩
      have HBz := Lib.hid (HB5.out.trans (hbz.mono HB5.out.size))
      clear hbz
      go_wp2
      go_ret
      exact ⟨rfl, HBz.out⟩
set_option maxRecDepth 100000 in
set_option maxHeartbeats 8000000 in
theorem csmall_some (A : Option Addr) (c : Nat) (F : Option Addr) (d : Nat) (most : Int) (v : Value) (l : List Int) (ps : List ByteArray) (fs : List Fa) (w : World) (h : NetC w A ps.length c F fs.length d ps fs) (hs : Short ps) (hv : Sl w 1 v (l.map (Value.int .i64))) (hz : Zw w) (hm : fs.length * 48 ≤ 140737488351232) (M : Nat) (hM : most = (M : Int)) (x : List Nat) (hc : contrV ps fs most = (x, 0)) (hk : checkF ps fs = 0) (hx : IdxL fs x) (hx1 : 1 ≤ x.length) (hx2 : x.length ≤ M) (hbad : badL ps fs x = true) (H : ∀ y, IdxL fs y → y.length < x.length → badL ps fs y = false) :
    Calls Tryd.prog 9 #[.agg #[.slice A ps.length c, .slice F fs.length d], .int .i64 most, v] w fun e w' => e = .returned (.bool true) ∧ Below w.heap.size w w' := by
  obtain ⟨Al, cl, ev, hcl, hclm, _⟩ := hv.open1
  rw [List.length_map] at ev hcl
  subst ev
  have hb0 := below_alloc' w (.cells #[.slice A ps.length c, .slice F fs.length d] 25)
  have y0 := Cel.new w 25 #[.slice A ps.length c, .slice F fs.length d]
  have HB0 := Lib.hid hb0
  have HY := Lib.hid y0
  have HN := Lib.hid h
  have HWk := Lib.hid (fun w' hb => works_any w' (hz.below hb))
  have HCo := Lib.hid (fun w' (hw : Below w.heap.size w w') => contr_any A ps.length c F fs.length d ps fs most w' (h.below hw) hs)
  have HKe := Lib.hid (fun w' (hw : Below w.heap.size w w') => kept_any A c F d ps fs (.slice Al l.length cl) l w' (h.below hw) (hv.below hw) (by omega))
  have HK2 := Lib.hid (fun (u : Value) (x : List Nat) w' (hw : Below w.heap.size w w') (hu : Sl w' 1 u (natsV x)) => kept_any A c F d ps fs u (intL x) w' (h.below hw) (by rw [← nats_int]; exact hu) (by omega))
  have HCk := Lib.hid (fun w' (hw : Below w.heap.size w w') => check_any A ps.length c F fs.length d ps fs w' (h.below hw) hs)
  have HCs := Lib.hid (fun A1 c1 F1 d1 gs w' (hw : NetC w' A1 ps.length c1 F1 (List.length gs) d1 ps gs) => consistent_any A1 ps.length c1 F1 gs.length d1 ps gs w' hw hs)
  rw [hc] at HCo
  rw [hk] at HCk
  unfold ContrP at HCo
  unfold KeptP at HKe HK2
  simp only at HCo HKe HK2
  have HG := Lib.hid (fun x (hx : IdxL fs x) => idx_check hk hx)
  have HH := Lib.hid H
  have HXi := Lib.hid hx
  have HCx := Lib.hid (idx_check hk hx)
  rw [hbad] at HCx
  have HWo := Lib.hid (fun i (hi : i < x.length) => wo_one hk hx hi H)
  have HWi := Lib.hid (fun A1 c1 F1 d1 (u : Value) (i : Nat) w' (hw : NetC w' A1 ps.length c1 F1 (selF fs x).length d1 ps (selF fs x)) (hu : Sl w' 1 u ([(i : Int)].map (Value.int .i64))) => without_any A1 c1 F1 d1 ps (selF fs x) u [(i : Int)] w' hw hs hu)
  have m1 : ¬ (most < (x.length : Int)) := by omega
  have m2 : decide (most < (x.length : Int)) = false := decide_eq_false m1
  have m3 : ((x.length : Int) == 0) = false := beq_eq_false_iff_ne.2 (by omega)
  have m4 : (x.length == 0) = false := beq_eq_false_iff_ne.2 (by omega)
  have m5 : ¬ (x.length = 0) := by omega
  clear h hs hv hz hb0 y0 hc hk H hM hx hbad
  have cHY0 := HY.out.cell 0 _ rfl
  have cHY1 := HY.out.cell 1 _ rfl
  go_enter Tryd.func9, Tryd.ntmps9
  go_wp2_with fail
  clear cHY0 cHY1
  refine (HCo.out _ HB0.out).mono ?_
  rintro e w1 ⟨hb1, vx, rfl, hx⟩
  have HB1 := Lib.hid (HB0.out.trans (hb1.mono HB0.out.size))
  replace HY := Lib.hid (HY.out.below HY.out.lt hb1)
  have HX := Lib.hid hx
  clear hx
  clear hb1
  have cHY0 := HY.out.cell 0 _ rfl
  have cHY1 := HY.out.cell 1 _ rfl
  obtain ⟨Ax, cx, ex, hxc, hxm, _⟩ := HX.out.open1
  rw [natsV_length] at ex hxc
  subst ex
  go_wp2_with fail
  clear cHY0 cHY1
  refine (HKe.out _ HB1.out).mono ?_
  rintro e w2 ⟨hb2, x1, q1, A1, c1, rfl, ha1, hi1, hq1, hq2⟩
  have HB2 := Lib.hid (HB1.out.trans (hb2.mono HB1.out.size))
  replace HY := Lib.hid (HY.out.below HY.out.lt hb2)
  replace HX := Lib.hid (HX.out.below hb2)
  have HF1 := Lib.hid ha1
  have HI1 := Lib.hid hi1
  have HQ1 := Lib.hid hq1
  have HQ2 := Lib.hid hq2
  clear ha1 hi1 hq1 hq2
  clear hb2
  have cHY0 := HY.out.cell 0 _ rfl
  have cHY1 := HY.out.cell 1 _ rfl
  have l0 := (Cel.new w2 25 #[.slice none 0 0, .slice none 0 0]).cell 0 _ rfl
  have l1 := (Cel.new w2 25 #[.slice none 0 0, .slice none 0 0]).cell 1 _ rfl
  have l2 := (Cel.new w2 25 #[.slice none 0 0, .slice none 0 0]).frozen 0
  have l3 := (Cel.new w2 25 #[.slice none 0 0, .slice none 0 0]).frozen 1
  go_upto_region 3 with fail
  clear l0 l1 l2 l3
  clear cHY0 cHY1
  have HO := Lib.hid (Cel.new w2 25 #[.slice A ps.length c, .slice A1 x1.length c1])
  have hb3 := below_alloc' w2 (.cells #[.slice A ps.length c, .slice A1 x1.length c1] 25)
  obtain ⟨BHO, hBHO⟩ : ∃ B, w2.heap.size = B := ⟨_, rfl⟩
  generalize w2.alloc (.cells #[.slice A ps.length c, .slice A1 x1.length c1] 25) = w3 at *
  have HB3 := Lib.hid (HB2.out.trans (hb3.mono HB2.out.size))
  replace HY := Lib.hid (HY.out.below HY.out.lt hb3)
  replace HX := Lib.hid (HX.out.below hb3)
  replace HF1 := Lib.hid (HF1.out.below hb3)
  rw [hBHO] at HO ⊢
  clear hb3 hBHO
  have cHY0 := HY.out.cell 0 _ rfl
  have cHY1 := HY.out.cell 1 _ rfl
  have cHO0 := HO.out.cell 0 _ rfl
  have cHO1 := HO.out.cell 1 _ rfl
  go_wp2_with fail
  clear cHY0 cHY1 cHO0 cHO1
  refine (HCk.out _ HB3.out).mono ?_
  rintro e w4 ⟨rfl, hb4⟩
  have HB4 := Lib.hid (HB3.out.trans (hb4.mono HB3.out.size))
  replace HY := Lib.hid (HY.out.below HY.out.lt hb4)
  replace HO := Lib.hid (HO.out.below HO.out.lt hb4)
  replace HX := Lib.hid (HX.out.below hb4)
  replace HF1 := Lib.hid (HF1.out.below hb4)
  clear hb4
  have cHY0 := HY.out.cell 0 _ rfl
  have cHY1 := HY.out.cell 1 _ rfl
  have cHO0 := HO.out.cell 0 _ rfl
  have cHO1 := HO.out.cell 1 _ rfl
  have HNo := Lib.hid (show NetC w4 A ps.length c A1 (selF fs x1).length c1 ps (selF fs x1) from ⟨HN.out.people.below HB4.out, by rw [selF_length]; exact HF1.out⟩)
  rw [← selF_length fs x1] at HO ⊢
  clear cHY0 cHY1 cHO0 cHO1
  have cHY0 := HY.out.cell 0 _ rfl
  have cHY1 := HY.out.cell 1 _ rfl
  have cHO0 := HO.out.cell 0 _ rfl
  have cHO1 := HO.out.cell 1 _ rfl
  have HC2 := Lib.hid (HCs.out A c A1 c1 (selF fs x1) _ HNo.out)
  rw [(HG.out x1 HI1.out).1, (HG.out x1 HI1.out).2] at HC2
  obtain ⟨bd, hbd⟩ : ∃ b, badL ps fs x1 = b := ⟨_, rfl⟩
  rw [hbd] at HC2
  have HBd := Lib.hid hbd
  clear hbd
  go_wp2_with fail
  clear cHY0 cHY1 cHO0 cHO1
  refine (HC2.out).mono ?_
  rintro e w5 ⟨rfl, hb5⟩
  have HB5 := Lib.hid (HB4.out.trans (hb5.mono HB4.out.size))
  replace HY := Lib.hid (HY.out.below HY.out.lt hb5)
  replace HO := Lib.hid (HO.out.below HO.out.lt hb5)
  replace HX := Lib.hid (HX.out.below hb5)
  clear hb5
  have cHY0 := HY.out.cell 0 _ rfl
  have cHY1 := HY.out.cell 1 _ rfl
  have cHO0 := HO.out.cell 0 _ rfl
  have cHO1 := HO.out.cell 1 _ rfl
  go_wp2_with fail
  clear cHY0 cHY1 cHO0 cHO1
  refine (HK2.out (.slice Ax x.length cx) x _ HB5.out HX.out).mono ?_
  rintro e w6 ⟨hb6, x2, q2, A2, c2, rfl, ha2, hi2, hq3, hq4⟩
  have HB6 := Lib.hid (HB5.out.trans (hb6.mono HB5.out.size))
  replace HY := Lib.hid (HY.out.below HY.out.lt hb6)
  replace HO := Lib.hid (HO.out.below HO.out.lt hb6)
  replace HX := Lib.hid (HX.out.below hb6)
  obtain rfl : q2 = true := hq4 x HXi.out rfl
  obtain rfl : x = x2 := intL_inj (hq3 rfl)
  have HF2 := Lib.hid ha2
  clear ha2 hi2 hq3 hq4
  clear hb6
  have cHY0 := HY.out.cell 0 _ rfl
  have cHY1 := HY.out.cell 1 _ rfl
  have cHO0 := HO.out.cell 0 _ rfl
  have cHO1 := HO.out.cell 1 _ rfl
  have l0 := (Cel.new w6 25 #[.slice none 0 0, .slice none 0 0]).cell 0 _ rfl
  have l1 := (Cel.new w6 25 #[.slice none 0 0, .slice none 0 0]).cell 1 _ rfl
  have l2 := (Cel.new w6 25 #[.slice none 0 0, .slice none 0 0]).frozen 0
  have l3 := (Cel.new w6 25 #[.slice none 0 0, .slice none 0 0]).frozen 1
  go_upto_region 11 with fail
  clear l0 l1 l2 l3
  clear cHY0 cHY1 cHO0 cHO1
  have HK := Lib.hid (Cel.new w6 25 #[.slice A ps.length c, .slice A2 x.length c2])
  have hb7 := below_alloc' w6 (.cells #[.slice A ps.length c, .slice A2 x.length c2] 25)
  obtain ⟨BHK, hBHK⟩ : ∃ B, w6.heap.size = B := ⟨_, rfl⟩
  generalize w6.alloc (.cells #[.slice A ps.length c, .slice A2 x.length c2] 25) = w7 at *
  have HB7 := Lib.hid (HB6.out.trans (hb7.mono HB6.out.size))
  replace HY := Lib.hid (HY.out.below HY.out.lt hb7)
  replace HO := Lib.hid (HO.out.below HO.out.lt hb7)
  replace HX := Lib.hid (HX.out.below hb7)
  replace HF2 := Lib.hid (HF2.out.below hb7)
  rw [hBHK] at HK ⊢
  clear hb7 hBHK
  have cHY0 := HY.out.cell 0 _ rfl
  have cHY1 := HY.out.cell 1 _ rfl
  have cHO0 := HO.out.cell 0 _ rfl
  have cHO1 := HO.out.cell 1 _ rfl
  have cHK0 := HK.out.cell 0 _ rfl
  have cHK1 := HK.out.cell 1 _ rfl
  have HNk := Lib.hid (show NetC w7 A ps.length c A2 (selF fs x).length c2 ps (selF fs x) from ⟨HN.out.people.below HB7.out, by rw [selF_length]; exact HF2.out⟩)
  rw [← selF_length fs x] at HK
  rw [show (Value.slice A2 x.length c2) = .slice A2 (selF fs x).length c2 by rw [selF_length]]
  have HC3 := Lib.hid (HCs.out A c A2 c2 (selF fs x) _ HNk.out)
  rw [HCx.out.1, HCx.out.2] at HC3
  clear cHY0 cHY1 cHO0 cHO1 cHK0 cHK1
  have cHY0 := HY.out.cell 0 _ rfl
  have cHY1 := HY.out.cell 1 _ rfl
  have cHO0 := HO.out.cell 0 _ rfl
  have cHO1 := HO.out.cell 1 _ rfl
  have cHK0 := HK.out.cell 0 _ rfl
  have cHK1 := HK.out.cell 1 _ rfl
  go_wp2_with fail
  clear cHY0 cHY1 cHO0 cHO1 cHK0 cHK1
  refine (HC3.out).mono ?_
  rintro e w8 ⟨rfl, hb8⟩
  have HB8 := Lib.hid (HB7.out.trans (hb8.mono HB7.out.size))
  replace HY := Lib.hid (HY.out.below HY.out.lt hb8)
  replace HO := Lib.hid (HO.out.below HO.out.lt hb8)
  replace HK := Lib.hid (HK.out.below HK.out.lt hb8)
  replace HX := Lib.hid (HX.out.below hb8)
  replace HNk := Lib.hid (HNk.out.below hb8)
  clear hb8
  have cHY0 := HY.out.cell 0 _ rfl
  have cHY1 := HY.out.cell 1 _ rfl
  have cHO0 := HO.out.cell 0 _ rfl
  have cHO1 := HO.out.cell 1 _ rfl
  have cHK0 := HK.out.cell 0 _ rfl
  have cHK1 := HK.out.cell 1 _ rfl
  clear cHY0 cHY1 cHO0 cHO1 cHK0 cHK1
  go_upto_region 12 with fail
  go_cut [122] (fun t wx => ∃ Wc : World, Wc = wx ∧ t = .bool false ∧ Wc = w8)
  case first =>
    cases q1 with
    | false =>
      go_wp2
      go_meet
      exact ⟨_, rfl, rfl, rfl⟩
    | true =>
      by_cases hll : l.length < x.length
      · have hlx : l.length = x1.length := by rw [HQ1.out rfl, intL_length]
        obtain rfl : bd = false := by rw [← HBd.out]; exact HH.out x1 HI1.out (by omega)
        have n1 : decide ((l.length : Int) < (x.length : Int)) = true := decide_eq_true (by omega)
        have n2 : (l.length : Int) < (x.length : Int) := by omega
        clear hlx hll
        go_wp2
        go_meet
        exact ⟨_, rfl, rfl, rfl⟩
      · have n1 : decide ((l.length : Int) < (x.length : Int)) = false := decide_eq_false (by omega)
        have n2 : ¬ (l.length : Int) < (x.length : Int) := by omega
        clear hll
        go_wp2
        go_meet
        exact ⟨_, rfl, rfl, rfl⟩
  case rest =>
    obtain ⟨Wc, rfl, rfl, rfl⟩ := hcut
    clear HO HY HX HNo HC2 HC3 HQ1 HQ2 HF1 HI1 HBd
    go_wp2
    go_loopw [16] (fun ti wr => ∃ i : Nat, ti = .int .i64 i ∧ i ≤ x.length ∧ Hid (Cel wr BHK 25 #[.slice A ps.length c, .slice A2 (selF fs x).length c2]) ∧ Hid (NetC wr A ps.length c A2 (selF fs x).length c2 ps (selF fs x)) ∧ Hid (Below w.heap.size w wr)) (fun ti _ => x.length - (intOf ti).toNat)
    case atStart => exact ⟨0, rfl, by omega, HK.out, HNk.out, HB8.out⟩
    case round =>
      clear HK HNk HB8
      obtain ⟨i, rfl, hi, HK, HNk, HB50⟩ := hrel
      by_cases hlt : i < x.length
      · have hii : (i : Int) < (x.length : Int) := by omega
        obtain ⟨gs, e1, e2, e3⟩ := HWo.out i hlt
        have HE1 := Lib.hid e1
        have HE2 := Lib.hid e2
        have HE3 := Lib.hid e3
        clear e1 e2 e3
        have cHK0 := HK.out.cell 0 _ rfl
        have cHK1 := HK.out.cell 1 _ rfl
        have a0 := (HK.out.alloc (.cells #[.int .i64 (i : Int)] 3)).cell 0 _ rfl
        have a1 := (HK.out.alloc (.cells #[.int .i64 (i : Int)] 3)).cell 1 _ rfl
        go_wp2_with fail
        clear cHK0 cHK1 a0 a1
        have hba := below_alloc' wr (.cells #[.int .i64 (i : Int)] 3)
        have hsa := Sl.new (s := 1) wr 3 1 1 #[.int .i64 (i : Int)] rfl (Nat.le_refl _) (by decide)
        have HW1 := Lib.hid (HWi.out A c A2 c2 (.slice (some ⟨wr.heap.size, 0, none⟩) 1 1) i _ (HNk.out.below hba) hsa)
        rw [HE1.out] at HW1
        unfold MergeP at HW1
        simp only at HW1
        refine HW1.out.mono ?_
        rintro e w51 ⟨hb51, A3, n3, c3, F3, m3', d3, rfl, hn3⟩
        obtain ⟨e4, e5, _⟩ := hn3.many
        subst e4
        subst e5
        have hb51' := below_then hba hb51
        have HB51 := Lib.hid (HB50.out.trans (hb51'.mono HB50.out.size))
        replace HK := Lib.hid (HK.out.below HK.out.lt hb51')
        replace HNk := Lib.hid (HNk.out.below hb51')
        have HN3 := Lib.hid hn3
        clear hba hsa hb51 hb51' hn3 HW1
        have l0 := (Cel.new w51 25 #[.slice none 0 0, .slice none 0 0]).cell 0 _ rfl
        have l1 := (Cel.new w51 25 #[.slice none 0 0, .slice none 0 0]).cell 1 _ rfl
        have l2 := (Cel.new w51 25 #[.slice none 0 0, .slice none 0 0]).frozen 0
        have l3 := (Cel.new w51 25 #[.slice none 0 0, .slice none 0 0]).frozen 1
        go_upto_region 18 with fail
        clear l0 l1 l2 l3
        have HM := Lib.hid (Cel.new w51 25 #[.slice A3 ps.length c3, .slice F3 gs.length d3])
        have hb52 := below_alloc' w51 (.cells #[.slice A3 ps.length c3, .slice F3 gs.length d3] 25)
        obtain ⟨BHM, hBHM⟩ : ∃ B, w51.heap.size = B := ⟨_, rfl⟩
        generalize w51.alloc (.cells #[.slice A3 ps.length c3, .slice F3 gs.length d3] 25) = w52 at *
        have HB52 := Lib.hid (HB51.out.trans (hb52.mono HB51.out.size))
        replace HK := Lib.hid (HK.out.below HK.out.lt hb52)
        replace HNk := Lib.hid (HNk.out.below hb52)
        replace HN3 := Lib.hid (HN3.out.below hb52)
        rw [hBHM] at HM ⊢
        clear hb52 hBHM
        have cHK0 := HK.out.cell 0 _ rfl
        have cHK1 := HK.out.cell 1 _ rfl
        have cHM0 := HM.out.cell 0 _ rfl
        have cHM1 := HM.out.cell 1 _ rfl
        have HC4 := Lib.hid (HCs.out A3 c3 F3 d3 gs _ HN3.out)
        rw [HE2.out, HE3.out] at HC4
        go_wp2_with fail
        clear cHK0 cHK1 cHM0 cHM1
        refine (HC4.out).mono ?_
        rintro e w53 ⟨rfl, hb53⟩
        have HB53 := Lib.hid (HB52.out.trans (hb53.mono HB52.out.size))
        replace HK := Lib.hid (HK.out.below HK.out.lt hb53)
        replace HM := Lib.hid (HM.out.below HM.out.lt hb53)
        replace HNk := Lib.hid (HNk.out.below hb53)
        clear hb53
        have cHK0 := HK.out.cell 0 _ rfl
        have cHK1 := HK.out.cell 1 _ rfl
        have cHM0 := HM.out.cell 0 _ rfl
        have cHM1 := HM.out.cell 1 _ rfl
        go_wp2
        go_roundw
        case rel => exact ⟨i + 1, by go_num, by omega, HK.out, HNk.out, HB53.out⟩
        case measure => simp [intOf]; omega
      · have hin : i = x.length := by omega
        clear hin
        go_wp2_with fail
        refine (HWk.out _ HB50.out).mono ?_
        rintro e wz ⟨rfl, hbz⟩
        have HBz := Lib.hid (HB50.out.trans (hbz.mono HB50.out.size))
        clear hbz
        go_wp2
        go_ret
        exact ⟨rfl, HBz.out⟩
theorem csmall_all (A : Option Addr) (n c : Nat) (F : Option Addr) (m d : Nat) (most : Int) (v : Value) (l : List Int) (ps : List ByteArray) (fs : List Fa) (w : World) (h : NetC w A n c F m d ps fs) (hs : Short ps) (hv : Sl w 1 v (l.map (Value.int .i64))) (hz : Zw w) (hw : ps.length * 16 ≤ 140737488351232 ∧ fs.length * 48 ≤ 140737488351232) :
    Calls Tryd.prog 9 #[.agg #[.slice A n c, .slice F m d], .int .i64 most, v] w fun e w' => e = .returned (.bool true) ∧ Below w.heap.size w w' := by
  obtain ⟨e1, e2, _⟩ := h.many
  subst e1
  subst e2
  rcases checkF_cases ps fs with hc | hc | ⟨hc, _⟩
  · exact csmall_bad 3 (.inl rfl) A c F d most v l ps fs w h hs hv hz hw.2 (by unfold contrV; rw [hc, if_pos (by decide)])
  · exact csmall_bad 100 (.inr (.inl rfl)) A c F d most v l ps fs w h hs hv hz hw.2 (by unfold contrV; rw [hc, if_pos (by decide)])
  · by_cases hm : most < 1 ∨ 4 < most
    · exact csmall_bad 8 (.inr (.inr rfl)) A c F d most v l ps fs w h hs hv hz hw.2 (by unfold contrV; rw [hc, if_neg (by decide), if_pos hm])
    · have hM : most = (most.toNat : Int) := by omega
      cases hq : contrF ps fs most.toNat with
      | none => exact csmall_none A c F d most v l ps fs w h hs hv hz hw.2 most.toNat hM (by unfold contrV; rw [hc, if_neg (by decide), if_neg hm, hq]) hc (fun x hx hl => contr_none hq hx hl)
      | some x =>
        obtain ⟨h1, h2, h3, h4, h5⟩ := contr_some hq
        exact csmall_some A c F d most v l ps fs w h hs hv hz hw.2 most.toNat hM x (by unfold contrV; rw [hc, if_neg (by decide), if_neg hm, hq]) hc h1 h2 h3 h4 h5
end Go.Proofs.YtdmcopjbckelmaaDoor
