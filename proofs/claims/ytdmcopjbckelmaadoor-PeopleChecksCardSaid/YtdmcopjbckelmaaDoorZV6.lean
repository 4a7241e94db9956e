/- PeopleChecks: the walk. Conditions: those stated. -/
import Derived.Test.YtdmcopjbckelmaaDoorZG3
import Derived.Test.YtdmcopjbckelmaaDoorZG8
import Derived.Test.YtdmcopjbckelmaaDoorZH
import Derived.Test.YtdmcopjbckelmaaDoorZL3
namespace Go.Proofs.YtdmcopjbckelmaaDoor
open Go Go.RowKit Go.Shelf
attribute [local go_sem] Oper.semAt_some

theorem liv_shape (ps : List ByteArray) (fs : List Fa) : ∃ (E : Mat) (n : Nat), livL ps fs = livesV E n := by
  unfold livL
  split
  · exact ⟨fun _ _ => 0, 0, rfl⟩
  · split
    · next D _ => exact ⟨D, ps.length, rfl⟩
    · exact ⟨fun _ _ => 0, 0, rfl⟩
/-- The cells of lives. -/
theorem lives_cell {w : World} {v : Value} {E : Mat} {n : Nat} (h : Sl w 4 v (livesV E n)) : ∃ A c, v = .slice A n c ∧ n ≤ c ∧ (c : Int) ≤ 9223372036854775807 ∧ (0 < n → ∃ b o, A = some ⟨b, o, none⟩ ∧ b < w.heap.size ∧ ∀ k, k < n → ∃ x0 x1 x2 x3 : Int, lifeV E k = [.int .i64 x0, .int .i64 x1, .int .i64 x2, .int .i64 x3] ∧
    w.cell? ⟨b, o + k * 4, none⟩ = some (.int .i64 x0) ∧ w.cell? ⟨b, o + k * 4 + 1, none⟩ = some (.int .i64 x1) ∧ w.cell? ⟨b, o + k * 4 + 2, none⟩ = some (.int .i64 x2) ∧ w.cell? ⟨b, o + k * 4 + 3, none⟩ = some (.int .i64 x3)) := by
  obtain ⟨A, m, c, rfl, hl, hc, hcm, hcl⟩ := h.open2 (by decide)
  rw [livesV_length] at hl
  obtain rfl : m = n := by omega
  refine ⟨A, c, rfl, hc, hcm, fun hn => ?_⟩
  obtain ⟨b, o, rfl, hb, hce⟩ := hcl (by omega)
  refine ⟨b, o, rfl, hb, fun k hk => ⟨_, _, _, _, rfl, ?_, ?_, ?_, ?_⟩⟩
  · exact hce _ _ (livesV_get (t := 0) hk rfl)
  · have := hce _ _ (livesV_get (t := 1) hk rfl); rwa [← Nat.add_assoc] at this
  · have := hce _ _ (livesV_get (t := 2) hk rfl); rwa [← Nat.add_assoc] at this
  · have := hce _ _ (livesV_get (t := 3) hk rfl); rwa [← Nat.add_assoc] at this
set_option maxRecDepth 100000 in
set_option maxHeartbeats 8000000 in
theorem checks_any (A : Option Addr) (c : Nat) (F : Option Addr) (d : Nat) (ps : List ByteArray) (fs : List Fa) (w : World) (h : NetC w A ps.length c F fs.length d ps fs) (hs : Short ps) (hz : Zw w) (hps : ps.length * 16 ≤ 140737488351232) (hfs : fs.length * 48 ≤ 140737488351232) :
    Calls Tryd.prog 3 #[.agg #[.slice A ps.length c, .slice F fs.length d]] w fun e w' => e = .returned (.bool true) ∧ Below w.heap.size w w' := by
  have hb0 := below_alloc' w (.cells #[.slice A ps.length c, .slice F fs.length d] 25)
  have y0 := Cel.new w 25 #[.slice A ps.length c, .slice F fs.length d]
  have HB0 := Lib.hid hb0
  have HY := Lib.hid y0
  have HN := Lib.hid h
  have HWk := Lib.hid (fun w' hb => works_any w' (hz.below hb))
  have HCo := Lib.hid (fun w' (hw : Below w.heap.size w w') => copy_any A ps.length c F fs.length d ps fs w' (h.below hw) (by omega) (by omega))
  have HK1 := Lib.hid (fun A c F d w' (hw : NetC w' A ps.length c F fs.length d ps fs) => check_any A ps.length c F fs.length d ps fs w' hw hs)
  have HK2 := Lib.hid (fun w' (hw : Below w.heap.size w w') => rcheck_any A ps.length c F fs.length d ps fs w' (h.below hw) hs)
  have HC1 := Lib.hid (fun A c F d w' (hw : NetC w' A ps.length c F fs.length d ps fs) => consistent_any A ps.length c F fs.length d ps fs w' hw hs)
  have HC2 := Lib.hid (fun w' (hw : Below w.heap.size w w') => rconsistent_any A ps.length c F fs.length d ps fs w' (h.below hw) hs)
  have HL1 := Lib.hid (fun A c F d w' (hw : NetC w' A ps.length c F fs.length d ps fs) => lives_any A ps.length c F fs.length d ps fs w' hw hs)
  have HL2 := Lib.hid (fun w' (hw : Below w.heap.size w w') => rlives_any A ps.length c F fs.length d ps fs w' (h.below hw) hs)
  have HSa := Lib.hid (fun A1 c1 F1 d1 w' (hw : NetC w' A1 ps.length c1 F1 fs.length d1 ps fs) (hb : Below w.heap.size w w') => same2_any A1 c1 F1 d1 A c F d ps fs w' hw (h.below hb))
  obtain ⟨E, n, hE⟩ := liv_shape ps fs
  rw [hE] at HL1 HL2
  clear hE
  generalize consF ps fs = cb at *
  generalize checkF ps fs = ce at *
  generalize livE ps fs = le at *
  have b1 : (cb == cb) = true := by simp
  have b2 : (ce == ce) = true := by simp
  have b3 : (le == le) = true := by simp
  clear h hs hz hb0 y0 hps hfs
  have cHY0 := HY.out.cell 0 _ rfl
  have cHY1 := HY.out.cell 1 _ rfl
  go_enter Tryd.func3, Tryd.ntmps3
  go_wp2_with fail
  clear cHY0 cHY1
  refine (HCo.out _ HB0.out).mono ?_
  rintro e w1 ⟨hb1, A1, c1, F1, d1, rfl, hn1⟩
  have HB1 := Lib.hid (HB0.out.trans (hb1.mono HB0.out.size))
  replace HY := Lib.hid (HY.out.below HY.out.lt hb1)
  have HN1 := Lib.hid hn1
  clear hb1 hn1
  have cHY0 := HY.out.cell 0 _ rfl
  have cHY1 := HY.out.cell 1 _ rfl
  have l0 := (Cel.new w1 25 #[.slice none 0 0, .slice none 0 0]).cell 0 _ rfl
  have l1 := (Cel.new w1 25 #[.slice none 0 0, .slice none 0 0]).cell 1 _ rfl
  have l2 := (Cel.new w1 25 #[.slice none 0 0, .slice none 0 0]).frozen 0
  have l3 := (Cel.new w1 25 #[.slice none 0 0, .slice none 0 0]).frozen 1
  go_upto_region 2 with fail
  clear l0 l1 l2 l3
  clear cHY0 cHY1
  have HO := Lib.hid (Cel.new w1 25 #[.slice A1 ps.length c1, .slice F1 fs.length d1])
  have hb2 := below_alloc' w1 (.cells #[.slice A1 ps.length c1, .slice F1 fs.length d1] 25)
  generalize w1.alloc (.cells #[.slice A1 ps.length c1, .slice F1 fs.length d1] 25) = w2 at *
  obtain ⟨Bo, hBo⟩ : ∃ Bo, w1.heap.size = Bo := ⟨_, rfl⟩
  have HB2 := Lib.hid (HB1.out.trans (hb2.mono HB1.out.size))
  replace HY := Lib.hid (HY.out.below HY.out.lt hb2)
  have HNo := Lib.hid (HN1.out.below hb2)
  rw [hBo] at HO ⊢
  clear hb2 HN1 hBo
  have cHY0 := HY.out.cell 0 _ rfl
  have cHY1 := HY.out.cell 1 _ rfl
  have cHO0 := HO.out.cell 0 _ rfl
  have cHO1 := HO.out.cell 1 _ rfl
  go_wp2_with fail
  clear cHY0 cHY1 cHO0 cHO1
  refine (HC1.out A1 c1 F1 d1 _ HNo.out).mono ?_
  rintro e w3 ⟨rfl, hb3⟩
  have HB3 := Lib.hid (HB2.out.trans (hb3.mono HB2.out.size))
  replace HY := Lib.hid (HY.out.below HY.out.lt hb3)
  replace HO := Lib.hid (HO.out.below HO.out.lt hb3)
  replace HNo := Lib.hid (HNo.out.below hb3)
  clear hb3
  have cHY0 := HY.out.cell 0 _ rfl
  have cHY1 := HY.out.cell 1 _ rfl
  have cHO0 := HO.out.cell 0 _ rfl
  have cHO1 := HO.out.cell 1 _ rfl
  go_wp2_with fail
  clear cHY0 cHY1 cHO0 cHO1
  refine (HC2.out _ HB3.out).mono ?_
  rintro e w4 ⟨rfl, hb4⟩
  have HB4 := Lib.hid (HB3.out.trans (hb4.mono HB3.out.size))
  replace HY := Lib.hid (HY.out.below HY.out.lt hb4)
  replace HO := Lib.hid (HO.out.below HO.out.lt hb4)
  replace HNo := Lib.hid (HNo.out.below hb4)
  clear hb4
  have cHY0 := HY.out.cell 0 _ rfl
  have cHY1 := HY.out.cell 1 _ rfl
  have cHO0 := HO.out.cell 0 _ rfl
  have cHO1 := HO.out.cell 1 _ rfl
  go_upto_region 4 with fail
  clear cHY0 cHY1 cHO0 cHO1
  have cHY0' := HY.out.cell 0 _ rfl
  have cHY1' := HY.out.cell 1 _ rfl
  have cHO0' := HO.out.cell 0 _ rfl
  have cHO1' := HO.out.cell 1 _ rfl
  have HBs := Lib.hid (show Below w4.heap.size w4 w4.drew from below_drew (Below.refl _ _))
  refine wp_region_held_drew (S := fun w' => Below w4.heap.size w4 w') (by kernel_rfl) HBs.out (fun hHeld => ?_)
  refine wpAnyH_takeD (i := 0) (v := ?_) 24 rfl (by kernel_rfl) (by kernel_rfl) (by kernel_rfl) (fun _ _ _ h => h) (Or.inl ⟨by rfl, ?_⟩) (by assumption) rfl ?_
  rotate_left
  · intro w' hSw
    have cHY0 := below_cell hSw cHY0'; have cHY1 := below_cell hSw cHY1'; have cHO0 := below_cell hSw cHO0'; have cHO1 := below_cell hSw cHO1'
    go_simp <;> with_reducible rfl
  simp only [List.setIfInBounds_toArray, List.set_cons_succ, List.set_cons_zero]
  refine wpAnyH_takeD (i := 2) (v := ?_) 26 rfl (by kernel_rfl) (by kernel_rfl) (by kernel_rfl) (fun _ _ _ h => h) (Or.inl ⟨by rfl, ?_⟩) (by assumption) rfl ?_
  rotate_left
  · intro w' hSw
    have cHY0 := below_cell hSw cHY0'; have cHY1 := below_cell hSw cHY1'; have cHO0 := below_cell hSw cHO0'; have cHO1 := below_cell hSw cHO1'
    go_simp <;> with_reducible rfl
  simp only [List.setIfInBounds_toArray, List.set_cons_succ, List.set_cons_zero]
  refine wpAnyH_ready (rs := [1]) (by kernel_rfl) (by simp) ?_
  refine AllReadyH.cons (o := _) rfl (fun K hK => ?_) AllReadyH.nil
  go_simp
  go_at_call 17
  refine (HK1.out A1 c1 F1 d1 _ (HNo.out.below HBs.out)).mono ?_
  rintro e w5 ⟨rfl, hb⟩
  have HBt := Lib.hid (HBs.out.trans (hb.mono HBs.out.size))
  clear hb
  refine hK.out _ _ HBt.out (fun hHeld2 => ?_)
  clear hK K
  refine wpAnyH_ready (rs := [3]) (by kernel_rfl) (by simp) ?_
  refine AllReadyH.cons (o := _) rfl (fun K hK => ?_) AllReadyH.nil
  go_simp
  go_at_call 18
  refine (HK2.out _ (HB4.out.trans (HBt.out.mono HB4.out.size))).mono ?_
  rintro e w6 ⟨rfl, hb⟩
  have HBu := Lib.hid (HBt.out.trans (hb.mono HBt.out.size))
  clear hb
  refine hK.out _ _ HBu.out (fun hHeld3 => ?_)
  clear hK K
  refine wpAnyH_takeD (i := 4) (v := ?_) 28 rfl (by kernel_rfl) (by kernel_rfl) (by kernel_rfl) (fun _ _ _ h => h) (Or.inl ⟨by rfl, ?_⟩) (by assumption) rfl ?_
  rotate_left
  · intro w' hSw
    have cHY0 := below_cell hSw cHY0'; have cHY1 := below_cell hSw cHY1'; have cHO0 := below_cell hSw cHO0'; have cHO1 := below_cell hSw cHO1'
    go_simp <;> with_reducible rfl
  simp only [List.setIfInBounds_toArray, List.set_cons_succ, List.set_cons_zero]
  refine wpAnyH_takeD (i := 5) (v := ?_) 29 rfl (by kernel_rfl) (by kernel_rfl) (by kernel_rfl) (fun _ _ _ h => h) (Or.inl ⟨by rfl, ?_⟩) (by assumption) rfl ?_
  rotate_left
  · intro w' hSw
    have cHY0 := below_cell hSw cHY0'; have cHY1 := below_cell hSw cHY1'; have cHO0 := below_cell hSw cHO0'; have cHO1 := below_cell hSw cHO1'
    go_simp <;> with_reducible rfl
  simp only [List.setIfInBounds_toArray, List.set_cons_succ, List.set_cons_zero]
  refine wpAnyH_takeD (i := 6) (v := ?_) 30 rfl (by kernel_rfl) (by kernel_rfl) (by kernel_rfl) (fun _ _ _ h => h) (Or.inl ⟨by rfl, ?_⟩) (by assumption) rfl ?_
  rotate_left
  · intro w' hSw
    have cHY0 := below_cell hSw cHY0'; have cHY1 := below_cell hSw cHY1'; have cHO0 := below_cell hSw cHO0'; have cHO1 := below_cell hSw cHO1'
    go_simp <;> with_reducible rfl
  simp only [List.setIfInBounds_toArray, List.set_cons_succ, List.set_cons_zero]
  refine wpAnyH_takeD (i := 7) (v := ?_) 31 rfl (by kernel_rfl) (by kernel_rfl) (by kernel_rfl) (fun _ _ _ h => h) (Or.inl ⟨by rfl, ?_⟩) (by assumption) rfl ?_
  rotate_left
  · intro w' hSw
    have cHY0 := below_cell hSw cHY0'; have cHY1 := below_cell hSw cHY1'; have cHO0 := below_cell hSw cHO0'; have cHO1 := below_cell hSw cHO1'
    go_simp <;> with_reducible rfl
  simp only [List.setIfInBounds_toArray, List.set_cons_succ, List.set_cons_zero]
  refine wpAnyH_takeD (i := 8) (v := ?_) 32 rfl (by kernel_rfl) (by kernel_rfl) (by kernel_rfl) (fun _ _ _ h => h) (Or.inl ⟨by rfl, ?_⟩) (by assumption) rfl ?_
  rotate_left
  · intro w' hSw
    have cHY0 := below_cell hSw cHY0'; have cHY1 := below_cell hSw cHY1'; have cHO0 := below_cell hSw cHO0'; have cHO1 := below_cell hSw cHO1'
    go_simp <;> with_reducible rfl
  simp only [List.setIfInBounds_toArray, List.set_cons_succ, List.set_cons_zero]
  refine wpAnyH_takeD (i := 9) (v := ?_) 33 rfl (by kernel_rfl) (by kernel_rfl) (by kernel_rfl) (fun _ _ _ h => h) (Or.inl ⟨by rfl, ?_⟩) (by assumption) rfl ?_
  rotate_left
  · intro w' hSw
    have cHY0 := below_cell hSw cHY0'; have cHY1 := below_cell hSw cHY1'; have cHO0 := below_cell hSw cHO0'; have cHO1 := below_cell hSw cHO1'
    go_simp <;> with_reducible rfl
  simp only [List.setIfInBounds_toArray, List.set_cons_succ, List.set_cons_zero]
  refine wpAnyH_takeD (i := 10) (v := ?_) 34 rfl (by kernel_rfl) (by kernel_rfl) (by kernel_rfl) (fun _ _ _ h => h) (Or.inl ⟨by rfl, ?_⟩) (by assumption) rfl ?_
  rotate_left
  · intro w' hSw
    have cHY0 := below_cell hSw cHY0'; have cHY1 := below_cell hSw cHY1'; have cHO0 := below_cell hSw cHO0'; have cHO1 := below_cell hSw cHO1'
    go_simp <;> with_reducible rfl
  simp only [List.setIfInBounds_toArray, List.set_cons_succ, List.set_cons_zero]
  refine wpAnyH_takeD (i := 11) (v := ?_) 35 rfl (by kernel_rfl) (by kernel_rfl) (by kernel_rfl) (fun _ _ _ h => h) (Or.inl ⟨by rfl, ?_⟩) (by assumption) rfl ?_
  rotate_left
  · intro w' hSw
    have cHY0 := below_cell hSw cHY0'; have cHY1 := below_cell hSw cHY1'; have cHO0 := below_cell hSw cHO0'; have cHO1 := below_cell hSw cHO1'
    go_simp <;> with_reducible rfl
  simp only [List.setIfInBounds_toArray, List.set_cons_succ, List.set_cons_zero]
  refine wpAnyH_takeD (i := 12) (v := ?_) 36 rfl (by kernel_rfl) (by kernel_rfl) (by kernel_rfl) (fun _ _ _ h => h) (Or.inl ⟨by rfl, ?_⟩) (by assumption) rfl ?_
  rotate_left
  · intro w' hSw
    have cHY0 := below_cell hSw cHY0'; have cHY1 := below_cell hSw cHY1'; have cHO0 := below_cell hSw cHO0'; have cHO1 := below_cell hSw cHO1'
    go_simp <;> with_reducible rfl
  simp only [List.setIfInBounds_toArray, List.set_cons_succ, List.set_cons_zero]
  refine wpAnyH_takeD (i := 13) (v := ?_) 37 rfl (by kernel_rfl) (by kernel_rfl) (by kernel_rfl) (fun _ _ _ h => h) (Or.inl ⟨by rfl, ?_⟩) (by assumption) rfl ?_
  rotate_left
  · intro w' hSw
    have cHY0 := below_cell hSw cHY0'; have cHY1 := below_cell hSw cHY1'; have cHO0 := below_cell hSw cHO0'; have cHO1 := below_cell hSw cHO1'
    go_simp <;> with_reducible rfl
  simp only [List.setIfInBounds_toArray, List.set_cons_succ, List.set_cons_zero]
  refine wpAnyH_takeD (i := 14) (v := ?_) 38 rfl (by kernel_rfl) (by kernel_rfl) (by kernel_rfl) (fun _ _ _ h => h) (Or.inl ⟨by rfl, ?_⟩) (by assumption) rfl ?_
  rotate_left
  · intro w' hSw
    have cHY0 := below_cell hSw cHY0'; have cHY1 := below_cell hSw cHY1'; have cHO0 := below_cell hSw cHO0'; have cHO1 := below_cell hSw cHO1'
    go_simp <;> with_reducible rfl
  simp only [List.setIfInBounds_toArray, List.set_cons_succ, List.set_cons_zero]
  refine wpAnyH_takeD (i := 15) (v := ?_) 8 rfl (by kernel_rfl) (by kernel_rfl) (by kernel_rfl) (fun _ _ _ h => h) (Or.inl ⟨by rfl, ?_⟩) (by assumption) rfl ?_
  rotate_left
  · intro w' hSw
    have cHY0 := below_cell hSw cHY0'; have cHY1 := below_cell hSw cHY1'; have cHO0 := below_cell hSw cHO0'; have cHO1 := below_cell hSw cHO1'
    go_simp <;> with_reducible rfl
  simp only [List.setIfInBounds_toArray, List.set_cons_succ, List.set_cons_zero]
  refine wpAnyH_done (by kernel_rfl) ?_ _
  clear cHY0' cHY1' cHO0' cHO1'
  have hbu := HBu.out
  generalize w6 = wu at *
  clear HBs HBt HBu
  have HB5 := Lib.hid (HB4.out.trans (hbu.mono HB4.out.size))
  replace HY := Lib.hid (HY.out.below HY.out.lt hbu)
  replace HO := Lib.hid (HO.out.below HO.out.lt hbu)
  replace HNo := Lib.hid (HNo.out.below hbu)
  clear hbu
  have cHY0 := HY.out.cell 0 _ rfl
  have cHY1 := HY.out.cell 1 _ rfl
  have cHO0 := HO.out.cell 0 _ rfl
  have cHO1 := HO.out.cell 1 _ rfl
  go_wp2_with fail
  clear cHY0 cHY1 cHO0 cHO1
  refine (HL1.out A1 c1 F1 d1 _ HNo.out).mono ?_
  rintro e w6 ⟨hb6, v1, rfl, hv1⟩
  have HB6 := Lib.hid (HB5.out.trans (hb6.mono HB5.out.size))
  replace HY := Lib.hid (HY.out.below HY.out.lt hb6)
  replace HO := Lib.hid (HO.out.below HO.out.lt hb6)
  replace HNo := Lib.hid (HNo.out.below hb6)
  have HV1 := Lib.hid hv1
  clear hv1
  clear hb6
  have cHY0 := HY.out.cell 0 _ rfl
  have cHY1 := HY.out.cell 1 _ rfl
  have cHO0 := HO.out.cell 0 _ rfl
  have cHO1 := HO.out.cell 1 _ rfl
  obtain ⟨X1, e1, rfl, x1, x2, _⟩ := lives_cell HV1.out
  go_wp2_with fail
  clear cHY0 cHY1 cHO0 cHO1
  refine (HL2.out _ HB6.out).mono ?_
  rintro e w7 ⟨hb7, v2, rfl, hv2⟩
  have HB7 := Lib.hid (HB6.out.trans (hb7.mono HB6.out.size))
  replace HY := Lib.hid (HY.out.below HY.out.lt hb7)
  replace HO := Lib.hid (HO.out.below HO.out.lt hb7)
  replace HNo := Lib.hid (HNo.out.below hb7)
  replace HV1 := Lib.hid (HV1.out.below hb7)
  have HV2 := Lib.hid hv2
  clear hv2
  clear hb7
  have cHY0 := HY.out.cell 0 _ rfl
  have cHY1 := HY.out.cell 1 _ rfl
  have cHO0 := HO.out.cell 0 _ rfl
  have cHO1 := HO.out.cell 1 _ rfl
  obtain ⟨X2, e2, rfl, x3, x4, hx2⟩ := lives_cell HV2.out
  obtain ⟨_, _, e', _, _, hx1⟩ := lives_cell HV1.out
  cases e'
  have HX1 := Lib.hid hx1
  have HX2 := Lib.hid hx2
  clear hx1 hx2
  clear cHY0 cHY1 cHO0 cHO1
  go_wp2
  go_loopw [8, 11] (fun tb ti wr => ∃ i : Nat, ti = .int .i64 i ∧ i ≤ n ∧ tb = .bool true ∧ Hid (Below w7.heap.size w7 wr)) (fun _ ti _ => n - (intOf ti).toNat)
  case atStart => exact ⟨0, rfl, by omega, rfl, Below.refl _ _⟩
  case round =>
    obtain ⟨i, rfl, hi, rfl, HW⟩ := hrel
    by_cases hlt : i < n
    · have hii : (i : Int) < (n : Int) := by omega
      have hi0 : (0 : Int) ≤ (i : Int) := by omega
      obtain ⟨b0, o0, rfl, _, hce⟩ := HX1.out (by omega)
      obtain ⟨b1', o1, rfl, _, hce2⟩ := HX2.out (by omega)
      obtain ⟨x0, x1', x2', x3', hx, g1, g2, g3, g4⟩ := hce i hlt
      obtain ⟨y0, y1, y2, y3, hy, e1', e2', e3', e4'⟩ := hce2 i hlt
      rw [hx] at hy
      simp only [List.cons.injEq, Value.int.injEq, true_and, and_true] at hy
      obtain ⟨rfl, rfl, rfl, rfl⟩ := hy
      replace g1 := below_cell HW.out g1
      replace e1' := below_cell HW.out e1'
      replace g2 := below_cell HW.out g2
      replace e2' := below_cell HW.out e2'
      replace g3 := below_cell HW.out g3
      replace e3' := below_cell HW.out e3'
      replace g4 := below_cell HW.out g4
      replace e4' := below_cell HW.out e4'
      clear hce hce2 hx
      go_upto_region 12 with fail
      go_quiet (fail)
      go_wp2
      go_roundw
      case rel => exact ⟨i + 1, by go_num, by omega, rfl, below_drewN HW.out _⟩
      case measure => simp [intOf]; omega
    · have hin : i = n := by omega
      clear hin
      have HB8 := Lib.hid (HB7.out.trans (HW.out.mono HB7.out.size))
      replace HY := Lib.hid (HY.out.below HY.out.lt HW.out)
      replace HO := Lib.hid (HO.out.below HO.out.lt HW.out)
      replace HNo := Lib.hid (HNo.out.below HW.out)
      have cHY0 := HY.out.cell 0 _ rfl
      have cHY1 := HY.out.cell 1 _ rfl
      have cHO0 := HO.out.cell 0 _ rfl
      have cHO1 := HO.out.cell 1 _ rfl
      go_wp2_with fail
      clear cHY0 cHY1 cHO0 cHO1
      refine (HSa.out A1 c1 F1 d1 _ HNo.out HB8.out).mono ?_
      rintro e w9 ⟨rfl, hb9⟩
      have HB9 := Lib.hid (HB8.out.trans (hb9.mono HB8.out.size))
      replace HY := Lib.hid (HY.out.below HY.out.lt hb9)
      replace HO := Lib.hid (HO.out.below HO.out.lt hb9)
      clear hb9
      have cHY0 := HY.out.cell 0 _ rfl
      have cHY1 := HY.out.cell 1 _ rfl
      have cHO0 := HO.out.cell 0 _ rfl
      have cHO1 := HO.out.cell 1 _ rfl
      go_wp2_with fail
      clear cHY0 cHY1 cHO0 cHO1
      refine (HWk.out _ HB9.out).mono ?_
      rintro e wz ⟨rfl, hbz⟩
      have HBz := Lib.hid (HB9.out.trans (hbz.mono HB9.out.size))
      clear hbz
      go_wp2
      go_ret
      exact ⟨rfl, HBz.out⟩
theorem checks_all (A : Option Addr) (n c : Nat) (F : Option Addr) (m d : Nat) (ps : List ByteArray) (fs : List Fa) (w : World) (h : NetC w A n c F m d ps fs) (hs : Short ps) (hz : Zw w) (hw : ps.length * 16 ≤ 140737488351232 ∧ fs.length * 48 ≤ 140737488351232) :
    Calls Tryd.prog 3 #[.agg #[.slice A n c, .slice F m d]] w fun e w' => e = .returned (.bool true) ∧ Below w.heap.size w w' := by
  obtain ⟨e1, e2, _⟩ := h.many
  subst e1
  subst e2
  exact checks_any A c F d ps fs w h hs hz hw.1 hw.2
end Go.Proofs.YtdmcopjbckelmaaDoor
