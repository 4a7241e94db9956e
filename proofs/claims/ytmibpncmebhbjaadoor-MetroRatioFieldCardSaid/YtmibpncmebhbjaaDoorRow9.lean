/- MetroRatioField: the walk. -/
import Derived.Test.YtmibpncmebhbjaaDoorP10
import Derived.Test.YtmibpncmebhbjaaDoorFld1
namespace Go.Proofs.YtmibpncmebhbjaaDoor
open Go Go.RowKit Go.Shelf
attribute [local go_sem] Oper.semAt_some rrV

theorem ratioF_isR' {n d : Int} (h : ((ratioF n d).e == 0) = true) : isR (ratioF n d).n (ratioF n d).d = true := by
  have h' : (ratioF n d).e = 0 := by simpa using h
  unfold ratioF at h' ⊢
  split at h'
  · simp at h'
  · next hd => rw [if_neg hd]; exact (fit_isR h').1
theorem div_back {p q : Rat} (h : q ≠ 0) : p * q / q = p := by
  rw [Rat.div_def]; grind
theorem rat_ne {M E : Int} (h : isR M E = true) (hM : M ≠ 0) : rat M E ≠ 0 := by
  intro e
  have h1 := (div_lowest h).1
  rw [e] at h1
  exact hM h1.symm
theorem opF_bd (N D M E : Int) (q : Rat) : Bd (opF N D M E (fit q)).n := by
  unfold opF
  split
  · exact (fit_bd q).1
  · unfold Bd; decide

set_option maxRecDepth 100000 in
set_option maxHeartbeats 2000000 in
theorem ratioField_any (a0 b0 a1 b1 a2 b2 : Int) (w : World) (hz : Zw w) (ha0 : Bd a0) (hb0 : Bd b0) (ha1 : Bd a1) (hb1 : Bd b1) (ha2 : Bd a2) (hb2 : Bd b2) :
    Calls Tryd.prog 15 #[.agg #[.int .i64 a0, .int .i64 b0], .agg #[.int .i64 a1, .int .i64 b1], .agg #[.int .i64 a2, .int .i64 b2]] w fun e w' => e = .returned (.bool true) ∧ Below w.heap.size w w' := by
  have Y0 := ((Cel.new w 68 #[.int .i64 a0, .int .i64 b0]).alloc (.cells #[.int .i64 a1, .int .i64 b1] 68)).alloc (.cells #[.int .i64 a2, .int .i64 b2] 68)
  have Y1 := (Cel.at (w.alloc (.cells #[.int .i64 a0, .int .i64 b0] 68)) (w.heap.size + 1) 68 #[.int .i64 a1, .int .i64 b1] (by simp)).alloc (.cells #[.int .i64 a2, .int .i64 b2] 68)
  have Y2 := Cel.at ((w.alloc (.cells #[.int .i64 a0, .int .i64 b0] 68)).alloc (.cells #[.int .i64 a1, .int .i64 b1] 68)) (w.heap.size + 1 + 1) 68 #[.int .i64 a2, .int .i64 b2] (by simp)
  have hw0 : Below w.heap.size w (((w.alloc (.cells #[.int .i64 a0, .int .i64 b0] 68)).alloc (.cells #[.int .i64 a1, .int .i64 b1] 68)).alloc (.cells #[.int .i64 a2, .int .i64 b2] 68)) := ((below_alloc' _ _).alloc (by simp) _).alloc (by simp; omega) _
  obtain ⟨W, hW⟩ : ∃ W, ((w.alloc (.cells #[.int .i64 a0, .int .i64 b0] 68)).alloc (.cells #[.int .i64 a1, .int .i64 b1] 68)).alloc (.cells #[.int .i64 a2, .int .i64 b2] 68) = W := ⟨_, rfl⟩
  rw [hW] at Y0 Y1 Y2 hw0
  have HK : Hid (∀ w', Below W.heap.size W w' → w'.cell? ⟨w.heap.size, 0, none⟩ = some (.int .i64 a0) ∧ w'.cell? ⟨w.heap.size, 1, none⟩ = some (.int .i64 b0) ∧ w'.cell? ⟨w.heap.size + 1, 0, none⟩ = some (.int .i64 a1) ∧ w'.cell? ⟨w.heap.size + 1, 1, none⟩ = some (.int .i64 b1) ∧ w'.cell? ⟨w.heap.size + 1 + 1, 0, none⟩ = some (.int .i64 a2) ∧ w'.cell? ⟨w.heap.size + 1 + 1, 1, none⟩ = some (.int .i64 b2)) := fun w' hb =>
    ⟨(Y0.below Y0.lt hb).cell 0 _ rfl, (Y0.below Y0.lt hb).cell 1 _ rfl, (Y1.below Y1.lt hb).cell 0 _ rfl, (Y1.below Y1.lt hb).cell 1 _ rfl, (Y2.below Y2.lt hb).cell 0 _ rfl, (Y2.below Y2.lt hb).cell 1 _ rfl⟩
  have HW := Lib.hid hw0
  have HZ : Hid (∀ w', Below W.heap.size W w' → Zw w') := fun w' hb => (hz.below hw0).below hb
  obtain ⟨c0, c1, c2, c3, c4, c5⟩ := HK.out W (Below.refl _ _)
  have R1 := Lib.hid (fun w' (hb : Below W.heap.size W w') => lawratio_any a0 b0 w' (HZ.out w' hb) ha0.1 ha0.2 hb0.1 hb0.2)
  have R2 := Lib.hid (fun w' (hb : Below W.heap.size W w') => lawratio_any a1 b1 w' (HZ.out w' hb) ha1.1 ha1.2 hb1.1 hb1.2)
  have R3 := Lib.hid (fun w' (hb : Below W.heap.size W w') => lawratio_any a2 b2 w' (HZ.out w' hb) ha2.1 ha2.2 hb2.1 hb2.2)
  have I1 := Lib.hid (fun h => ratioF_isR' (n := a0) (d := b0) h)
  have I2 := Lib.hid (fun h => ratioF_isR' (n := a1) (d := b1) h)
  have I3 := Lib.hid (fun h => ratioF_isR' (n := a2) (d := b2) h)
  have C9 : Hid (∀ w', Below W.heap.size W w' → Calls Tryd.prog 27 #[] w' fun e w'' => e = .returned (.bool true) ∧ Below w'.heap.size w' w'') := fun w' hb => works_any w' (HZ.out w' hb)
  clear Y0 Y1 Y2 hw0 hz ha0 hb0 ha1 hb1 ha2 hb2
  generalize ratioF a0 b0 = r1 at *
  generalize ratioF a1 b1 = r2 at *
  generalize ratioF a2 b2 = r3 at *
  obtain ⟨N, D, x1⟩ := r1
  obtain ⟨M, E, x2⟩ := r2
  obtain ⟨P, F, x3⟩ := r3
  simp only at R1 R2 R3 I1 I2 I3
  generalize (x1 == 0) = p1 at *
  generalize (x2 == 0) = p2 at *
  generalize (x3 == 0) = p3 at *
  go_enter Tryd.func15, Tryd.ntmps15
  go_upto_region 4 with (first
    | (go_at_call_of 46 (Value.int .i64 a0); refine (R1.out _ (Below.refl _ _)).mono ?_; rintro e w1 ⟨rfl, hb⟩; have HB1 := Lib.hid (hb.alloc hb.size (.cells #[.int .i64 N, .int .i64 D] 23)); have HY1 := Lib.hid (Cel.new w1 23 #[.int .i64 N, .int .i64 D]); clear hb c0 c1 c2 c3 c4 c5; obtain ⟨c0, c1, c2, c3, c4, c5⟩ := HK.out _ HB1.out)
    | (go_at_call_of 46 (Value.int .i64 a1); refine (R2.out _ HB1.out).mono ?_; rintro e w2 ⟨rfl, hb⟩; have hB := HB1.out.trans (hb.mono HB1.out.size); have HB2 := Lib.hid (hB.alloc hB.size (.cells #[.int .i64 M, .int .i64 E] 23)); have HX1 := Lib.hid ((HY1.out.below HY1.out.lt hb).alloc (.cells #[.int .i64 M, .int .i64 E] 23)); have HY2 := Lib.hid (Cel.new w2 23 #[.int .i64 M, .int .i64 E]); clear hB hb c0 c1 c2 c3 c4 c5; obtain ⟨c0, c1, c2, c3, c4, c5⟩ := HK.out _ HB2.out)
    | (go_at_call_of 46 (Value.int .i64 a2); refine (R3.out _ HB2.out).mono ?_; rintro e w3 ⟨rfl, hb⟩; have hB := HB2.out.trans (hb.mono HB2.out.size); have HB3 := Lib.hid (hB.alloc hB.size (.cells #[.int .i64 P, .int .i64 F] 23)); have HX2 := Lib.hid ((HX1.out.below HX1.out.lt hb).alloc (.cells #[.int .i64 P, .int .i64 F] 23)); have HX3 := Lib.hid ((HY2.out.below HY2.out.lt hb).alloc (.cells #[.int .i64 P, .int .i64 F] 23)); have HY3 := Lib.hid (Cel.new w3 23 #[.int .i64 P, .int .i64 F]); clear hB hb c0 c1 c2 c3 c4 c5))
  obtain ⟨V, hV⟩ : ∃ V, w3.alloc (.cells #[.int .i64 P, .int .i64 F] 23) = V := ⟨_, rfl⟩
  rw [hV] at HB3 HX2 HX3 HY3 ⊢
  clear hV
  cases p1 with
  | false =>
    go_wp2_with (go_at_call 27; refine (C9.out _ HB3.out).mono ?_; rintro e w4 ⟨rfl, hb⟩)
    go_ret
    exact ⟨rfl, below_then HW.out (below_then HB3.out hb)⟩
  | true =>
    cases p2 with
    | false =>
      go_wp2_with (go_at_call 27; refine (C9.out _ HB3.out).mono ?_; rintro e w4 ⟨rfl, hb⟩)
      go_ret
      exact ⟨rfl, below_then HW.out (below_then HB3.out hb)⟩
    | true =>
      cases p3 with
      | false =>
        go_wp2_with (go_at_call 27; refine (C9.out _ HB3.out).mono ?_; rintro e w4 ⟨rfl, hb⟩)
        go_ret
        exact ⟨rfl, below_then HW.out (below_then HB3.out hb)⟩
      | true =>
        have i1 := I1.out rfl
        have i2 := I2.out rfl
        have i3 := I3.out rfl
        have HM10 : Hid (∀ w', Below V.heap.size V w' → w'.cell? ⟨w1.heap.size, 0, none⟩ = some (.int .i64 N) ∧ w'.cell? ⟨w1.heap.size, 1, none⟩ = some (.int .i64 D) ∧ w'.cell? ⟨w2.heap.size, 0, none⟩ = some (.int .i64 M) ∧ w'.cell? ⟨w2.heap.size, 1, none⟩ = some (.int .i64 E) ∧ w'.cell? ⟨w3.heap.size, 0, none⟩ = some (.int .i64 P) ∧ w'.cell? ⟨w3.heap.size, 1, none⟩ = some (.int .i64 F)) := fun w' hb =>
          ⟨(HX2.out.below HX2.out.lt hb).cell 0 _ rfl, (HX2.out.below HX2.out.lt hb).cell 1 _ rfl, (HX3.out.below HX3.out.lt hb).cell 0 _ rfl, (HX3.out.below HX3.out.lt hb).cell 1 _ rfl, (HY3.out.below HY3.out.lt hb).cell 0 _ rfl, (HY3.out.below HY3.out.lt hb).cell 1 _ rfl⟩
        have HB10 := Lib.hid (Below.refl V.heap.size V)
        have HZV : Hid (∀ w', Below V.heap.size V w' → Zw w') := fun w' hb => (HZ.out V HB3.out).below hb
        have HWV := Lib.hid (below_then HW.out HB3.out)
        have C9V : Hid (∀ w', Below V.heap.size V w' → Calls Tryd.prog 27 #[] w' fun e w'' => e = .returned (.bool true) ∧ Below w'.heap.size w' w'') := fun w' hb => C9.out w' (HB3.out.trans (hb.mono HB3.out.size))
        clear HZ C9 HK HX2 HX3 HY3 HY1 HX1 HY2 R1 R2 R3 I1 I2 I3
        have K1 : Hid (∀ w', Below V.heap.size V w' → Calls Tryd.prog 39 #[.agg #[.int .i64 N, .int .i64 D], .agg #[.int .i64 M, .int .i64 E]] w' fun e w'' => e = .returned (rrV (fit (rat N D + rat M E))) ∧ Below w'.heap.size w' w'') := fun w' hb => add_ok _ _ _ _ w' (HZV.out w' hb) i1 i2
        have K2 : Hid (∀ w', Below V.heap.size V w' → Calls Tryd.prog 39 #[.agg #[.int .i64 M, .int .i64 E], .agg #[.int .i64 N, .int .i64 D]] w' fun e w'' => e = .returned (rrV (fit (rat N D + rat M E))) ∧ Below w'.heap.size w' w'') := fun w' hb => by
          have := add_ok _ _ _ _ w' (HZV.out w' hb) i2 i1
          rw [Rat.add_comm (rat N D)]; exact this
        have K3 : Hid (∀ w', Below V.heap.size V w' → Calls Tryd.prog 63 #[.agg #[.int .i64 N, .int .i64 D], .agg #[.int .i64 M, .int .i64 E]] w' fun e w'' => e = .returned (rrV (fit (rat N D * rat M E))) ∧ Below w'.heap.size w' w'') := fun w' hb => mul_ok _ _ _ _ w' (HZV.out w' hb) i1 i2
        have K4 : Hid (∀ w', Below V.heap.size V w' → Calls Tryd.prog 63 #[.agg #[.int .i64 M, .int .i64 E], .agg #[.int .i64 N, .int .i64 D]] w' fun e w'' => e = .returned (rrV (fit (rat N D * rat M E))) ∧ Below w'.heap.size w' w'') := fun w' hb => by
          have := mul_ok _ _ _ _ w' (HZV.out w' hb) i2 i1
          rw [Rat.mul_comm (rat N D)]; exact this
        have G1 : Hid (∀ w', Below V.heap.size V w' → Calls Tryd.prog 67 #[.func (.func 39) #[] #[], .agg #[.int .i64 N, .int .i64 D], .agg #[.int .i64 M, .int .i64 E], .agg #[.int .i64 P, .int .i64 F]] w' fun e w'' => e = .returned (.bool true) ∧ Below w'.heap.size w' w'') := fun w' hb => grouped_add _ _ _ _ _ _ w' (HZV.out w' hb) i1 i2 i3
        have G2 : Hid (∀ w', Below V.heap.size V w' → Calls Tryd.prog 67 #[.func (.func 63) #[] #[], .agg #[.int .i64 N, .int .i64 D], .agg #[.int .i64 M, .int .i64 E], .agg #[.int .i64 P, .int .i64 F]] w' fun e w'' => e = .returned (.bool true) ∧ Below w'.heap.size w' w'') := fun w' hb => grouped_mul _ _ _ _ _ _ w' (HZV.out w' hb) i1 i2 i3
        have G3 : Hid (∀ w', Below V.heap.size V w' → Calls Tryd.prog 68 #[.agg #[.int .i64 N, .int .i64 D], .agg #[.int .i64 M, .int .i64 E], .agg #[.int .i64 P, .int .i64 F]] w' fun e w'' => e = .returned (.bool true) ∧ Below w'.heap.size w' w'') := fun w' hb => spread_any _ _ _ _ _ _ w' (HZV.out w' hb) i1 i2 i3
        have HX := Lib.hid (fun h => fit_isR (q := rat N D + rat M E) h)
        have HY := Lib.hid (fun h => fit_isR (q := rat N D * rat M E) h)
        have hx := fit_bd (rat N D + rat M E)
        have hy := fit_bd (rat N D * rat M E)
        have HA := Lib.hid (show rat N D + rat M E - rat M E = rat N D by grind)
        have HD := Lib.hid (fun h => div_back (p := rat N D) (rat_ne i2 h))
        have HI1 := Lib.hid i1
        have HI2 := Lib.hid i2
        have HFI := Lib.hid (fit_rat i1)
        have S1 : Hid (∀ w', Below V.heap.size V w' → Calls Tryd.prog 65 #[.agg #[.int .i64 (fit (rat N D + rat M E)).n, .int .i64 (fit (rat N D + rat M E)).d], .agg #[.int .i64 M, .int .i64 E]] w' fun e w'' => ∃ r : RR, (e = .returned (rrV r) ∧ ((fit (rat N D + rat M E)).e = 0 → r = ⟨N, D, 0⟩)) ∧ Below w'.heap.size w' w'') := fun w' hb => by
          refine (sub_any _ _ M E w' (HZV.out w' hb) hx.1 hx.2.1 (isR_Bd' i2).1 (isR_Bd' i2).2).mono fun e w'' h => ⟨_, ⟨h.1, fun he => ?_⟩, h.2⟩
          obtain ⟨j1, j2⟩ := HX.out he
          rw [opF_yes j1 i2, j2, HA.out, HFI.out]
        have S2 : Hid (∀ w', Below V.heap.size V w' → Calls Tryd.prog 66 #[.agg #[.int .i64 (fit (rat N D * rat M E)).n, .int .i64 (fit (rat N D * rat M E)).d], .agg #[.int .i64 M, .int .i64 E]] w' fun e w'' => ∃ r : RR, (e = .returned (rrV r) ∧ ((fit (rat N D * rat M E)).e = 0 → M ≠ 0 → r = ⟨N, D, 0⟩)) ∧ Below w'.heap.size w' w'') := fun w' hb => by
          refine (div_any _ _ M E w' (HZV.out w' hb) hy.1 hy.2.1 (isR_Bd' i2).1 (isR_Bd' i2).2).mono fun e w'' h => ⟨_, ⟨h.1, fun he hM => ?_⟩, h.2⟩
          obtain ⟨j1, j2⟩ := HY.out he
          rw [opF_yes j1 i2]
          unfold divR
          rw [if_neg hM, j2, HD.out hM, HFI.out]
        clear HX HY hx hy HA HD HI1 HI2 HFI i1 i2 i3
        generalize fit (rat N D + rat M E) = x at *
        generalize fit (rat N D * rat M E) = y at *
        obtain ⟨xN, xD, xE⟩ := x
        obtain ⟨yN, yD, yE⟩ := y
        simp only at S1 S2
        obtain ⟨g0, g1, g2, g3, g4, g5⟩ := HM10.out V (Below.refl _ _)
        have b1 : ((0 : Int) == 0) = true := rfl
        go_wp2_with fail
        go_fit (K1.out _ HB10.out)
        rintro e w11 ⟨rfl, hb⟩
        clear g0 g1 g2 g3 g4 g5
        have HB11 := Lib.hid (below_then HB10.out (hb.alloc hb.size (.cells #[.int .i64 xN, .int .i64 xD] 23)))
        have HM11 : Hid (∀ w', Below (w11.alloc (.cells #[.int .i64 xN, .int .i64 xD] 23)).heap.size (w11.alloc (.cells #[.int .i64 xN, .int .i64 xD] 23)) w' → w'.cell? ⟨w1.heap.size, 0, none⟩ = some (.int .i64 N) ∧ w'.cell? ⟨w1.heap.size, 1, none⟩ = some (.int .i64 D) ∧ w'.cell? ⟨w2.heap.size, 0, none⟩ = some (.int .i64 M) ∧ w'.cell? ⟨w2.heap.size, 1, none⟩ = some (.int .i64 E) ∧ w'.cell? ⟨w3.heap.size, 0, none⟩ = some (.int .i64 P) ∧ w'.cell? ⟨w3.heap.size, 1, none⟩ = some (.int .i64 F) ∧ w'.cell? ⟨w11.heap.size, 0, none⟩ = some (.int .i64 xN) ∧ w'.cell? ⟨w11.heap.size, 1, none⟩ = some (.int .i64 xD)) := fun w' h => by
          obtain ⟨q0, q1, q2, q3, q4, q5⟩ := HM10.out w' (below_then (hb.alloc hb.size (.cells #[.int .i64 xN, .int .i64 xD] 23)) h)
          exact ⟨q0, q1, q2, q3, q4, q5, below_cell h ((Cel.new w11 23 #[.int .i64 xN, .int .i64 xD]).cell 0 _ rfl), below_cell h ((Cel.new w11 23 #[.int .i64 xN, .int .i64 xD]).cell 1 _ rfl)⟩
        clear hb
        obtain ⟨g0, g1, g2, g3, g4, g5, g6, g7⟩ := HM11.out _ (Below.refl _ _)
        go_wp2_with fail
        go_fit (K2.out _ HB11.out)
        rintro e w12 ⟨rfl, hb⟩
        clear g0 g1 g2 g3 g4 g5 g6 g7
        have HB12 := Lib.hid (below_then HB11.out (hb.alloc hb.size (.cells #[.int .i64 xN, .int .i64 xD] 23)))
        have HM12 : Hid (∀ w', Below (w12.alloc (.cells #[.int .i64 xN, .int .i64 xD] 23)).heap.size (w12.alloc (.cells #[.int .i64 xN, .int .i64 xD] 23)) w' → w'.cell? ⟨w1.heap.size, 0, none⟩ = some (.int .i64 N) ∧ w'.cell? ⟨w1.heap.size, 1, none⟩ = some (.int .i64 D) ∧ w'.cell? ⟨w2.heap.size, 0, none⟩ = some (.int .i64 M) ∧ w'.cell? ⟨w2.heap.size, 1, none⟩ = some (.int .i64 E) ∧ w'.cell? ⟨w3.heap.size, 0, none⟩ = some (.int .i64 P) ∧ w'.cell? ⟨w3.heap.size, 1, none⟩ = some (.int .i64 F) ∧ w'.cell? ⟨w11.heap.size, 0, none⟩ = some (.int .i64 xN) ∧ w'.cell? ⟨w11.heap.size, 1, none⟩ = some (.int .i64 xD) ∧ w'.cell? ⟨w12.heap.size, 0, none⟩ = some (.int .i64 xN) ∧ w'.cell? ⟨w12.heap.size, 1, none⟩ = some (.int .i64 xD)) := fun w' h => by
          obtain ⟨q0, q1, q2, q3, q4, q5, q6, q7⟩ := HM11.out w' (below_then (hb.alloc hb.size (.cells #[.int .i64 xN, .int .i64 xD] 23)) h)
          exact ⟨q0, q1, q2, q3, q4, q5, q6, q7, below_cell h ((Cel.new w12 23 #[.int .i64 xN, .int .i64 xD]).cell 0 _ rfl), below_cell h ((Cel.new w12 23 #[.int .i64 xN, .int .i64 xD]).cell 1 _ rfl)⟩
        clear hb
        obtain ⟨g0, g1, g2, g3, g4, g5, g6, g7, g8, g9⟩ := HM12.out _ (Below.refl _ _)
        go_wp2_with fail
        go_fit (K3.out _ HB12.out)
        rintro e w13 ⟨rfl, hb⟩
        clear g0 g1 g2 g3 g4 g5 g6 g7 g8 g9
        have HB13 := Lib.hid (below_then HB12.out (hb.alloc hb.size (.cells #[.int .i64 yN, .int .i64 yD] 23)))
        have HM13 : Hid (∀ w', Below (w13.alloc (.cells #[.int .i64 yN, .int .i64 yD] 23)).heap.size (w13.alloc (.cells #[.int .i64 yN, .int .i64 yD] 23)) w' → w'.cell? ⟨w1.heap.size, 0, none⟩ = some (.int .i64 N) ∧ w'.cell? ⟨w1.heap.size, 1, none⟩ = some (.int .i64 D) ∧ w'.cell? ⟨w2.heap.size, 0, none⟩ = some (.int .i64 M) ∧ w'.cell? ⟨w2.heap.size, 1, none⟩ = some (.int .i64 E) ∧ w'.cell? ⟨w3.heap.size, 0, none⟩ = some (.int .i64 P) ∧ w'.cell? ⟨w3.heap.size, 1, none⟩ = some (.int .i64 F) ∧ w'.cell? ⟨w11.heap.size, 0, none⟩ = some (.int .i64 xN) ∧ w'.cell? ⟨w11.heap.size, 1, none⟩ = some (.int .i64 xD) ∧ w'.cell? ⟨w12.heap.size, 0, none⟩ = some (.int .i64 xN) ∧ w'.cell? ⟨w12.heap.size, 1, none⟩ = some (.int .i64 xD) ∧ w'.cell? ⟨w13.heap.size, 0, none⟩ = some (.int .i64 yN) ∧ w'.cell? ⟨w13.heap.size, 1, none⟩ = some (.int .i64 yD)) := fun w' h => by
          obtain ⟨q0, q1, q2, q3, q4, q5, q6, q7, q8, q9⟩ := HM12.out w' (below_then (hb.alloc hb.size (.cells #[.int .i64 yN, .int .i64 yD] 23)) h)
          exact ⟨q0, q1, q2, q3, q4, q5, q6, q7, q8, q9, below_cell h ((Cel.new w13 23 #[.int .i64 yN, .int .i64 yD]).cell 0 _ rfl), below_cell h ((Cel.new w13 23 #[.int .i64 yN, .int .i64 yD]).cell 1 _ rfl)⟩
        clear hb
        obtain ⟨g0, g1, g2, g3, g4, g5, g6, g7, g8, g9, g10, g11⟩ := HM13.out _ (Below.refl _ _)
        go_wp2_with fail
        go_fit (K4.out _ HB13.out)
        rintro e w14 ⟨rfl, hb⟩
        clear g0 g1 g2 g3 g4 g5 g6 g7 g8 g9 g10 g11
        have HB14 := Lib.hid (below_then HB13.out (hb.alloc hb.size (.cells #[.int .i64 yN, .int .i64 yD] 23)))
        have HM14 : Hid (∀ w', Below (w14.alloc (.cells #[.int .i64 yN, .int .i64 yD] 23)).heap.size (w14.alloc (.cells #[.int .i64 yN, .int .i64 yD] 23)) w' → w'.cell? ⟨w1.heap.size, 0, none⟩ = some (.int .i64 N) ∧ w'.cell? ⟨w1.heap.size, 1, none⟩ = some (.int .i64 D) ∧ w'.cell? ⟨w2.heap.size, 0, none⟩ = some (.int .i64 M) ∧ w'.cell? ⟨w2.heap.size, 1, none⟩ = some (.int .i64 E) ∧ w'.cell? ⟨w3.heap.size, 0, none⟩ = some (.int .i64 P) ∧ w'.cell? ⟨w3.heap.size, 1, none⟩ = some (.int .i64 F) ∧ w'.cell? ⟨w11.heap.size, 0, none⟩ = some (.int .i64 xN) ∧ w'.cell? ⟨w11.heap.size, 1, none⟩ = some (.int .i64 xD) ∧ w'.cell? ⟨w12.heap.size, 0, none⟩ = some (.int .i64 xN) ∧ w'.cell? ⟨w12.heap.size, 1, none⟩ = some (.int .i64 xD) ∧ w'.cell? ⟨w13.heap.size, 0, none⟩ = some (.int .i64 yN) ∧ w'.cell? ⟨w13.heap.size, 1, none⟩ = some (.int .i64 yD) ∧ w'.cell? ⟨w14.heap.size, 0, none⟩ = some (.int .i64 yN) ∧ w'.cell? ⟨w14.heap.size, 1, none⟩ = some (.int .i64 yD)) := fun w' h => by
          obtain ⟨q0, q1, q2, q3, q4, q5, q6, q7, q8, q9, q10, q11⟩ := HM13.out w' (below_then (hb.alloc hb.size (.cells #[.int .i64 yN, .int .i64 yD] 23)) h)
          exact ⟨q0, q1, q2, q3, q4, q5, q6, q7, q8, q9, q10, q11, below_cell h ((Cel.new w14 23 #[.int .i64 yN, .int .i64 yD]).cell 0 _ rfl), below_cell h ((Cel.new w14 23 #[.int .i64 yN, .int .i64 yD]).cell 1 _ rfl)⟩
        clear hb
        obtain ⟨g0, g1, g2, g3, g4, g5, g6, g7, g8, g9, g10, g11, g12, g13⟩ := HM14.out _ (Below.refl _ _)
        go_wp2_with fail
        go_fit (S1.out _ HB14.out)
        rintro e w15 ⟨⟨sN, sD, sE⟩, ⟨rfl, HS⟩, hb⟩
        clear g0 g1 g2 g3 g4 g5 g6 g7 g8 g9 g10 g11 g12 g13
        have HB15 := Lib.hid (below_then HB14.out (hb.alloc hb.size (.cells #[.int .i64 sN, .int .i64 sD] 23)))
        have HM15 : Hid (∀ w', Below (w15.alloc (.cells #[.int .i64 sN, .int .i64 sD] 23)).heap.size (w15.alloc (.cells #[.int .i64 sN, .int .i64 sD] 23)) w' → w'.cell? ⟨w1.heap.size, 0, none⟩ = some (.int .i64 N) ∧ w'.cell? ⟨w1.heap.size, 1, none⟩ = some (.int .i64 D) ∧ w'.cell? ⟨w2.heap.size, 0, none⟩ = some (.int .i64 M) ∧ w'.cell? ⟨w2.heap.size, 1, none⟩ = some (.int .i64 E) ∧ w'.cell? ⟨w3.heap.size, 0, none⟩ = some (.int .i64 P) ∧ w'.cell? ⟨w3.heap.size, 1, none⟩ = some (.int .i64 F) ∧ w'.cell? ⟨w11.heap.size, 0, none⟩ = some (.int .i64 xN) ∧ w'.cell? ⟨w11.heap.size, 1, none⟩ = some (.int .i64 xD) ∧ w'.cell? ⟨w12.heap.size, 0, none⟩ = some (.int .i64 xN) ∧ w'.cell? ⟨w12.heap.size, 1, none⟩ = some (.int .i64 xD) ∧ w'.cell? ⟨w13.heap.size, 0, none⟩ = some (.int .i64 yN) ∧ w'.cell? ⟨w13.heap.size, 1, none⟩ = some (.int .i64 yD) ∧ w'.cell? ⟨w14.heap.size, 0, none⟩ = some (.int .i64 yN) ∧ w'.cell? ⟨w14.heap.size, 1, none⟩ = some (.int .i64 yD) ∧ w'.cell? ⟨w15.heap.size, 0, none⟩ = some (.int .i64 sN) ∧ w'.cell? ⟨w15.heap.size, 1, none⟩ = some (.int .i64 sD)) := fun w' h => by
          obtain ⟨q0, q1, q2, q3, q4, q5, q6, q7, q8, q9, q10, q11, q12, q13⟩ := HM14.out w' (below_then (hb.alloc hb.size (.cells #[.int .i64 sN, .int .i64 sD] 23)) h)
          exact ⟨q0, q1, q2, q3, q4, q5, q6, q7, q8, q9, q10, q11, q12, q13, below_cell h ((Cel.new w15 23 #[.int .i64 sN, .int .i64 sD]).cell 0 _ rfl), below_cell h ((Cel.new w15 23 #[.int .i64 sN, .int .i64 sD]).cell 1 _ rfl)⟩
        clear hb
        obtain ⟨g0, g1, g2, g3, g4, g5, g6, g7, g8, g9, g10, g11, g12, g13, g14, g15⟩ := HM15.out _ (Below.refl _ _)
        have HS := Lib.hid HS
        have hs : (xE == 0) = false ∨ (xE = 0 ∧ N = sN ∧ D = sD ∧ sE = 0) := by
          by_cases h : xE = 0
          · have := HS.out h
            simp only [RR.mk.injEq] at this
            exact .inr ⟨h, this.1.symm, this.2.1.symm, this.2.2⟩
          · exact .inl (by simpa using h)
        clear HS S1 K1 K2 K3 K4
        rcases hs with bX | ⟨rfl, rfl, rfl, rfl⟩
        · go_wp2_with fail
          go_fit (S2.out _ HB15.out)
          rintro e w16 ⟨⟨tN, tD, tE⟩, ⟨rfl, HS⟩, hb⟩
          clear g0 g1 g2 g3 g4 g5 g6 g7 g8 g9 g10 g11 g12 g13 g14 g15
          have HB16 := Lib.hid (below_then HB15.out (hb.alloc hb.size (.cells #[.int .i64 tN, .int .i64 tD] 23)))
          have HM16 : Hid (∀ w', Below (w16.alloc (.cells #[.int .i64 tN, .int .i64 tD] 23)).heap.size (w16.alloc (.cells #[.int .i64 tN, .int .i64 tD] 23)) w' → w'.cell? ⟨w1.heap.size, 0, none⟩ = some (.int .i64 N) ∧ w'.cell? ⟨w1.heap.size, 1, none⟩ = some (.int .i64 D) ∧ w'.cell? ⟨w2.heap.size, 0, none⟩ = some (.int .i64 M) ∧ w'.cell? ⟨w2.heap.size, 1, none⟩ = some (.int .i64 E) ∧ w'.cell? ⟨w3.heap.size, 0, none⟩ = some (.int .i64 P) ∧ w'.cell? ⟨w3.heap.size, 1, none⟩ = some (.int .i64 F) ∧ w'.cell? ⟨w11.heap.size, 0, none⟩ = some (.int .i64 xN) ∧ w'.cell? ⟨w11.heap.size, 1, none⟩ = some (.int .i64 xD) ∧ w'.cell? ⟨w12.heap.size, 0, none⟩ = some (.int .i64 xN) ∧ w'.cell? ⟨w12.heap.size, 1, none⟩ = some (.int .i64 xD) ∧ w'.cell? ⟨w13.heap.size, 0, none⟩ = some (.int .i64 yN) ∧ w'.cell? ⟨w13.heap.size, 1, none⟩ = some (.int .i64 yD) ∧ w'.cell? ⟨w14.heap.size, 0, none⟩ = some (.int .i64 yN) ∧ w'.cell? ⟨w14.heap.size, 1, none⟩ = some (.int .i64 yD) ∧ w'.cell? ⟨w15.heap.size, 0, none⟩ = some (.int .i64 sN) ∧ w'.cell? ⟨w15.heap.size, 1, none⟩ = some (.int .i64 sD) ∧ w'.cell? ⟨w16.heap.size, 0, none⟩ = some (.int .i64 tN) ∧ w'.cell? ⟨w16.heap.size, 1, none⟩ = some (.int .i64 tD)) := fun w' h => by
            obtain ⟨q0, q1, q2, q3, q4, q5, q6, q7, q8, q9, q10, q11, q12, q13, q14, q15⟩ := HM15.out w' (below_then (hb.alloc hb.size (.cells #[.int .i64 tN, .int .i64 tD] 23)) h)
            exact ⟨q0, q1, q2, q3, q4, q5, q6, q7, q8, q9, q10, q11, q12, q13, q14, q15, below_cell h ((Cel.new w16 23 #[.int .i64 tN, .int .i64 tD]).cell 0 _ rfl), below_cell h ((Cel.new w16 23 #[.int .i64 tN, .int .i64 tD]).cell 1 _ rfl)⟩
          clear hb
          obtain ⟨g0, g1, g2, g3, g4, g5, g6, g7, g8, g9, g10, g11, g12, g13, g14, g15, g16, g17⟩ := HM16.out _ (Below.refl _ _)
          have hs : (yE == 0) = false ∨ (yE = 0 ∧ M = 0) ∨ (yE = 0 ∧ (M != 0) = true ∧ N = tN ∧ D = tD ∧ tE = 0) := by
            by_cases h : yE = 0
            · by_cases hM : M = 0
              · exact .inr (.inl ⟨h, hM⟩)
              · have := HS h hM
                simp only [RR.mk.injEq] at this
                exact .inr (.inr ⟨h, by simpa using hM, this.1.symm, this.2.1.symm, this.2.2⟩)
            · exact .inl (by simpa using h)
          clear HS S2
          rcases hs with bY | ⟨rfl, hM⟩ | ⟨rfl, bM, rfl, rfl, rfl⟩
          · go_wp2_with fail
            go_fit (G1.out _ HB16.out)
            rintro e w17 ⟨rfl, hb⟩
            clear g0 g1 g2 g3 g4 g5 g6 g7 g8 g9 g10 g11 g12 g13 g14 g15 g16 g17
            have HB17 := Lib.hid (below_then HB16.out hb)
            have HM17 : Hid (∀ w', Below w17.heap.size w17 w' → w'.cell? ⟨w1.heap.size, 0, none⟩ = some (.int .i64 N) ∧ w'.cell? ⟨w1.heap.size, 1, none⟩ = some (.int .i64 D) ∧ w'.cell? ⟨w2.heap.size, 0, none⟩ = some (.int .i64 M) ∧ w'.cell? ⟨w2.heap.size, 1, none⟩ = some (.int .i64 E) ∧ w'.cell? ⟨w3.heap.size, 0, none⟩ = some (.int .i64 P) ∧ w'.cell? ⟨w3.heap.size, 1, none⟩ = some (.int .i64 F) ∧ w'.cell? ⟨w11.heap.size, 0, none⟩ = some (.int .i64 xN) ∧ w'.cell? ⟨w11.heap.size, 1, none⟩ = some (.int .i64 xD) ∧ w'.cell? ⟨w12.heap.size, 0, none⟩ = some (.int .i64 xN) ∧ w'.cell? ⟨w12.heap.size, 1, none⟩ = some (.int .i64 xD) ∧ w'.cell? ⟨w13.heap.size, 0, none⟩ = some (.int .i64 yN) ∧ w'.cell? ⟨w13.heap.size, 1, none⟩ = some (.int .i64 yD) ∧ w'.cell? ⟨w14.heap.size, 0, none⟩ = some (.int .i64 yN) ∧ w'.cell? ⟨w14.heap.size, 1, none⟩ = some (.int .i64 yD) ∧ w'.cell? ⟨w15.heap.size, 0, none⟩ = some (.int .i64 sN) ∧ w'.cell? ⟨w15.heap.size, 1, none⟩ = some (.int .i64 sD) ∧ w'.cell? ⟨w16.heap.size, 0, none⟩ = some (.int .i64 tN) ∧ w'.cell? ⟨w16.heap.size, 1, none⟩ = some (.int .i64 tD)) := fun w' h => HM16.out w' (below_then hb h)
            clear hb
            obtain ⟨g0, g1, g2, g3, g4, g5, g6, g7, g8, g9, g10, g11, g12, g13, g14, g15, g16, g17⟩ := HM17.out _ (Below.refl _ _)
            go_wp2_with fail
            go_fit (G2.out _ HB17.out)
            rintro e w18 ⟨rfl, hb⟩
            clear g0 g1 g2 g3 g4 g5 g6 g7 g8 g9 g10 g11 g12 g13 g14 g15 g16 g17
            have HB18 := Lib.hid (below_then HB17.out hb)
            have HM18 : Hid (∀ w', Below w18.heap.size w18 w' → w'.cell? ⟨w1.heap.size, 0, none⟩ = some (.int .i64 N) ∧ w'.cell? ⟨w1.heap.size, 1, none⟩ = some (.int .i64 D) ∧ w'.cell? ⟨w2.heap.size, 0, none⟩ = some (.int .i64 M) ∧ w'.cell? ⟨w2.heap.size, 1, none⟩ = some (.int .i64 E) ∧ w'.cell? ⟨w3.heap.size, 0, none⟩ = some (.int .i64 P) ∧ w'.cell? ⟨w3.heap.size, 1, none⟩ = some (.int .i64 F) ∧ w'.cell? ⟨w11.heap.size, 0, none⟩ = some (.int .i64 xN) ∧ w'.cell? ⟨w11.heap.size, 1, none⟩ = some (.int .i64 xD) ∧ w'.cell? ⟨w12.heap.size, 0, none⟩ = some (.int .i64 xN) ∧ w'.cell? ⟨w12.heap.size, 1, none⟩ = some (.int .i64 xD) ∧ w'.cell? ⟨w13.heap.size, 0, none⟩ = some (.int .i64 yN) ∧ w'.cell? ⟨w13.heap.size, 1, none⟩ = some (.int .i64 yD) ∧ w'.cell? ⟨w14.heap.size, 0, none⟩ = some (.int .i64 yN) ∧ w'.cell? ⟨w14.heap.size, 1, none⟩ = some (.int .i64 yD) ∧ w'.cell? ⟨w15.heap.size, 0, none⟩ = some (.int .i64 sN) ∧ w'.cell? ⟨w15.heap.size, 1, none⟩ = some (.int .i64 sD) ∧ w'.cell? ⟨w16.heap.size, 0, none⟩ = some (.int .i64 tN) ∧ w'.cell? ⟨w16.heap.size, 1, none⟩ = some (.int .i64 tD)) := fun w' h => HM17.out w' (below_then hb h)
            clear hb
            obtain ⟨g0, g1, g2, g3, g4, g5, g6, g7, g8, g9, g10, g11, g12, g13, g14, g15, g16, g17⟩ := HM18.out _ (Below.refl _ _)
            go_wp2_with fail
            go_fit (G3.out _ HB18.out)
            rintro e w19 ⟨rfl, hb⟩
            clear g0 g1 g2 g3 g4 g5 g6 g7 g8 g9 g10 g11 g12 g13 g14 g15 g16 g17
            have HB19 := Lib.hid (below_then HB18.out hb)
            have HM19 : Hid (∀ w', Below w19.heap.size w19 w' → w'.cell? ⟨w1.heap.size, 0, none⟩ = some (.int .i64 N) ∧ w'.cell? ⟨w1.heap.size, 1, none⟩ = some (.int .i64 D) ∧ w'.cell? ⟨w2.heap.size, 0, none⟩ = some (.int .i64 M) ∧ w'.cell? ⟨w2.heap.size, 1, none⟩ = some (.int .i64 E) ∧ w'.cell? ⟨w3.heap.size, 0, none⟩ = some (.int .i64 P) ∧ w'.cell? ⟨w3.heap.size, 1, none⟩ = some (.int .i64 F) ∧ w'.cell? ⟨w11.heap.size, 0, none⟩ = some (.int .i64 xN) ∧ w'.cell? ⟨w11.heap.size, 1, none⟩ = some (.int .i64 xD) ∧ w'.cell? ⟨w12.heap.size, 0, none⟩ = some (.int .i64 xN) ∧ w'.cell? ⟨w12.heap.size, 1, none⟩ = some (.int .i64 xD) ∧ w'.cell? ⟨w13.heap.size, 0, none⟩ = some (.int .i64 yN) ∧ w'.cell? ⟨w13.heap.size, 1, none⟩ = some (.int .i64 yD) ∧ w'.cell? ⟨w14.heap.size, 0, none⟩ = some (.int .i64 yN) ∧ w'.cell? ⟨w14.heap.size, 1, none⟩ = some (.int .i64 yD) ∧ w'.cell? ⟨w15.heap.size, 0, none⟩ = some (.int .i64 sN) ∧ w'.cell? ⟨w15.heap.size, 1, none⟩ = some (.int .i64 sD) ∧ w'.cell? ⟨w16.heap.size, 0, none⟩ = some (.int .i64 tN) ∧ w'.cell? ⟨w16.heap.size, 1, none⟩ = some (.int .i64 tD)) := fun w' h => HM18.out w' (below_then hb h)
            clear hb
            obtain ⟨g0, g1, g2, g3, g4, g5, g6, g7, g8, g9, g10, g11, g12, g13, g14, g15, g16, g17⟩ := HM19.out _ (Below.refl _ _)
            go_wp2_with fail
            go_fit (C9V.out _ HB19.out)
            rintro e w20 ⟨rfl, hb⟩
            go_wp2
            go_ret
            exact ⟨rfl, below_then HWV.out (below_then HB19.out hb)⟩
          · have bM : (M != 0) = false := by simpa using hM
            clear hM
            go_wp2_with fail
            go_fit (G1.out _ HB16.out)
            rintro e w17 ⟨rfl, hb⟩
            clear g0 g1 g2 g3 g4 g5 g6 g7 g8 g9 g10 g11 g12 g13 g14 g15 g16 g17
            have HB17 := Lib.hid (below_then HB16.out hb)
            have HM17 : Hid (∀ w', Below w17.heap.size w17 w' → w'.cell? ⟨w1.heap.size, 0, none⟩ = some (.int .i64 N) ∧ w'.cell? ⟨w1.heap.size, 1, none⟩ = some (.int .i64 D) ∧ w'.cell? ⟨w2.heap.size, 0, none⟩ = some (.int .i64 M) ∧ w'.cell? ⟨w2.heap.size, 1, none⟩ = some (.int .i64 E) ∧ w'.cell? ⟨w3.heap.size, 0, none⟩ = some (.int .i64 P) ∧ w'.cell? ⟨w3.heap.size, 1, none⟩ = some (.int .i64 F) ∧ w'.cell? ⟨w11.heap.size, 0, none⟩ = some (.int .i64 xN) ∧ w'.cell? ⟨w11.heap.size, 1, none⟩ = some (.int .i64 xD) ∧ w'.cell? ⟨w12.heap.size, 0, none⟩ = some (.int .i64 xN) ∧ w'.cell? ⟨w12.heap.size, 1, none⟩ = some (.int .i64 xD) ∧ w'.cell? ⟨w13.heap.size, 0, none⟩ = some (.int .i64 yN) ∧ w'.cell? ⟨w13.heap.size, 1, none⟩ = some (.int .i64 yD) ∧ w'.cell? ⟨w14.heap.size, 0, none⟩ = some (.int .i64 yN) ∧ w'.cell? ⟨w14.heap.size, 1, none⟩ = some (.int .i64 yD) ∧ w'.cell? ⟨w15.heap.size, 0, none⟩ = some (.int .i64 sN) ∧ w'.cell? ⟨w15.heap.size, 1, none⟩ = some (.int .i64 sD) ∧ w'.cell? ⟨w16.heap.size, 0, none⟩ = some (.int .i64 tN) ∧ w'.cell? ⟨w16.heap.size, 1, none⟩ = some (.int .i64 tD)) := fun w' h => HM16.out w' (below_then hb h)
            clear hb
            obtain ⟨g0, g1, g2, g3, g4, g5, g6, g7, g8, g9, g10, g11, g12, g13, g14, g15, g16, g17⟩ := HM17.out _ (Below.refl _ _)
            go_wp2_with fail
            go_fit (G2.out _ HB17.out)
            rintro e w18 ⟨rfl, hb⟩
            clear g0 g1 g2 g3 g4 g5 g6 g7 g8 g9 g10 g11 g12 g13 g14 g15 g16 g17
            have HB18 := Lib.hid (below_then HB17.out hb)
            have HM18 : Hid (∀ w', Below w18.heap.size w18 w' → w'.cell? ⟨w1.heap.size, 0, none⟩ = some (.int .i64 N) ∧ w'.cell? ⟨w1.heap.size, 1, none⟩ = some (.int .i64 D) ∧ w'.cell? ⟨w2.heap.size, 0, none⟩ = some (.int .i64 M) ∧ w'.cell? ⟨w2.heap.size, 1, none⟩ = some (.int .i64 E) ∧ w'.cell? ⟨w3.heap.size, 0, none⟩ = some (.int .i64 P) ∧ w'.cell? ⟨w3.heap.size, 1, none⟩ = some (.int .i64 F) ∧ w'.cell? ⟨w11.heap.size, 0, none⟩ = some (.int .i64 xN) ∧ w'.cell? ⟨w11.heap.size, 1, none⟩ = some (.int .i64 xD) ∧ w'.cell? ⟨w12.heap.size, 0, none⟩ = some (.int .i64 xN) ∧ w'.cell? ⟨w12.heap.size, 1, none⟩ = some (.int .i64 xD) ∧ w'.cell? ⟨w13.heap.size, 0, none⟩ = some (.int .i64 yN) ∧ w'.cell? ⟨w13.heap.size, 1, none⟩ = some (.int .i64 yD) ∧ w'.cell? ⟨w14.heap.size, 0, none⟩ = some (.int .i64 yN) ∧ w'.cell? ⟨w14.heap.size, 1, none⟩ = some (.int .i64 yD) ∧ w'.cell? ⟨w15.heap.size, 0, none⟩ = some (.int .i64 sN) ∧ w'.cell? ⟨w15.heap.size, 1, none⟩ = some (.int .i64 sD) ∧ w'.cell? ⟨w16.heap.size, 0, none⟩ = some (.int .i64 tN) ∧ w'.cell? ⟨w16.heap.size, 1, none⟩ = some (.int .i64 tD)) := fun w' h => HM17.out w' (below_then hb h)
            clear hb
            obtain ⟨g0, g1, g2, g3, g4, g5, g6, g7, g8, g9, g10, g11, g12, g13, g14, g15, g16, g17⟩ := HM18.out _ (Below.refl _ _)
            go_wp2_with fail
            go_fit (G3.out _ HB18.out)
            rintro e w19 ⟨rfl, hb⟩
            clear g0 g1 g2 g3 g4 g5 g6 g7 g8 g9 g10 g11 g12 g13 g14 g15 g16 g17
            have HB19 := Lib.hid (below_then HB18.out hb)
            have HM19 : Hid (∀ w', Below w19.heap.size w19 w' → w'.cell? ⟨w1.heap.size, 0, none⟩ = some (.int .i64 N) ∧ w'.cell? ⟨w1.heap.size, 1, none⟩ = some (.int .i64 D) ∧ w'.cell? ⟨w2.heap.size, 0, none⟩ = some (.int .i64 M) ∧ w'.cell? ⟨w2.heap.size, 1, none⟩ = some (.int .i64 E) ∧ w'.cell? ⟨w3.heap.size, 0, none⟩ = some (.int .i64 P) ∧ w'.cell? ⟨w3.heap.size, 1, none⟩ = some (.int .i64 F) ∧ w'.cell? ⟨w11.heap.size, 0, none⟩ = some (.int .i64 xN) ∧ w'.cell? ⟨w11.heap.size, 1, none⟩ = some (.int .i64 xD) ∧ w'.cell? ⟨w12.heap.size, 0, none⟩ = some (.int .i64 xN) ∧ w'.cell? ⟨w12.heap.size, 1, none⟩ = some (.int .i64 xD) ∧ w'.cell? ⟨w13.heap.size, 0, none⟩ = some (.int .i64 yN) ∧ w'.cell? ⟨w13.heap.size, 1, none⟩ = some (.int .i64 yD) ∧ w'.cell? ⟨w14.heap.size, 0, none⟩ = some (.int .i64 yN) ∧ w'.cell? ⟨w14.heap.size, 1, none⟩ = some (.int .i64 yD) ∧ w'.cell? ⟨w15.heap.size, 0, none⟩ = some (.int .i64 sN) ∧ w'.cell? ⟨w15.heap.size, 1, none⟩ = some (.int .i64 sD) ∧ w'.cell? ⟨w16.heap.size, 0, none⟩ = some (.int .i64 tN) ∧ w'.cell? ⟨w16.heap.size, 1, none⟩ = some (.int .i64 tD)) := fun w' h => HM18.out w' (below_then hb h)
            clear hb
            obtain ⟨g0, g1, g2, g3, g4, g5, g6, g7, g8, g9, g10, g11, g12, g13, g14, g15, g16, g17⟩ := HM19.out _ (Below.refl _ _)
            go_wp2_with fail
            go_fit (C9V.out _ HB19.out)
            rintro e w20 ⟨rfl, hb⟩
            go_wp2
            go_ret
            exact ⟨rfl, below_then HWV.out (below_then HB19.out hb)⟩
          · go_wp2_with fail
            go_fit (G1.out _ HB16.out)
            rintro e w17 ⟨rfl, hb⟩
            clear g0 g1 g2 g3 g4 g5 g6 g7 g8 g9 g10 g11 g12 g13 g14 g15 g16 g17
            have HB17 := Lib.hid (below_then HB16.out hb)
            have HM17 : Hid (∀ w', Below w17.heap.size w17 w' → w'.cell? ⟨w1.heap.size, 0, none⟩ = some (.int .i64 N) ∧ w'.cell? ⟨w1.heap.size, 1, none⟩ = some (.int .i64 D) ∧ w'.cell? ⟨w2.heap.size, 0, none⟩ = some (.int .i64 M) ∧ w'.cell? ⟨w2.heap.size, 1, none⟩ = some (.int .i64 E) ∧ w'.cell? ⟨w3.heap.size, 0, none⟩ = some (.int .i64 P) ∧ w'.cell? ⟨w3.heap.size, 1, none⟩ = some (.int .i64 F) ∧ w'.cell? ⟨w11.heap.size, 0, none⟩ = some (.int .i64 xN) ∧ w'.cell? ⟨w11.heap.size, 1, none⟩ = some (.int .i64 xD) ∧ w'.cell? ⟨w12.heap.size, 0, none⟩ = some (.int .i64 xN) ∧ w'.cell? ⟨w12.heap.size, 1, none⟩ = some (.int .i64 xD) ∧ w'.cell? ⟨w13.heap.size, 0, none⟩ = some (.int .i64 yN) ∧ w'.cell? ⟨w13.heap.size, 1, none⟩ = some (.int .i64 yD) ∧ w'.cell? ⟨w14.heap.size, 0, none⟩ = some (.int .i64 yN) ∧ w'.cell? ⟨w14.heap.size, 1, none⟩ = some (.int .i64 yD) ∧ w'.cell? ⟨w15.heap.size, 0, none⟩ = some (.int .i64 sN) ∧ w'.cell? ⟨w15.heap.size, 1, none⟩ = some (.int .i64 sD) ∧ w'.cell? ⟨w16.heap.size, 0, none⟩ = some (.int .i64 N) ∧ w'.cell? ⟨w16.heap.size, 1, none⟩ = some (.int .i64 D)) := fun w' h => HM16.out w' (below_then hb h)
            clear hb
            obtain ⟨g0, g1, g2, g3, g4, g5, g6, g7, g8, g9, g10, g11, g12, g13, g14, g15, g16, g17⟩ := HM17.out _ (Below.refl _ _)
            go_wp2_with fail
            go_fit (G2.out _ HB17.out)
            rintro e w18 ⟨rfl, hb⟩
            clear g0 g1 g2 g3 g4 g5 g6 g7 g8 g9 g10 g11 g12 g13 g14 g15 g16 g17
            have HB18 := Lib.hid (below_then HB17.out hb)
            have HM18 : Hid (∀ w', Below w18.heap.size w18 w' → w'.cell? ⟨w1.heap.size, 0, none⟩ = some (.int .i64 N) ∧ w'.cell? ⟨w1.heap.size, 1, none⟩ = some (.int .i64 D) ∧ w'.cell? ⟨w2.heap.size, 0, none⟩ = some (.int .i64 M) ∧ w'.cell? ⟨w2.heap.size, 1, none⟩ = some (.int .i64 E) ∧ w'.cell? ⟨w3.heap.size, 0, none⟩ = some (.int .i64 P) ∧ w'.cell? ⟨w3.heap.size, 1, none⟩ = some (.int .i64 F) ∧ w'.cell? ⟨w11.heap.size, 0, none⟩ = some (.int .i64 xN) ∧ w'.cell? ⟨w11.heap.size, 1, none⟩ = some (.int .i64 xD) ∧ w'.cell? ⟨w12.heap.size, 0, none⟩ = some (.int .i64 xN) ∧ w'.cell? ⟨w12.heap.size, 1, none⟩ = some (.int .i64 xD) ∧ w'.cell? ⟨w13.heap.size, 0, none⟩ = some (.int .i64 yN) ∧ w'.cell? ⟨w13.heap.size, 1, none⟩ = some (.int .i64 yD) ∧ w'.cell? ⟨w14.heap.size, 0, none⟩ = some (.int .i64 yN) ∧ w'.cell? ⟨w14.heap.size, 1, none⟩ = some (.int .i64 yD) ∧ w'.cell? ⟨w15.heap.size, 0, none⟩ = some (.int .i64 sN) ∧ w'.cell? ⟨w15.heap.size, 1, none⟩ = some (.int .i64 sD) ∧ w'.cell? ⟨w16.heap.size, 0, none⟩ = some (.int .i64 N) ∧ w'.cell? ⟨w16.heap.size, 1, none⟩ = some (.int .i64 D)) := fun w' h => HM17.out w' (below_then hb h)
            clear hb
            obtain ⟨g0, g1, g2, g3, g4, g5, g6, g7, g8, g9, g10, g11, g12, g13, g14, g15, g16, g17⟩ := HM18.out _ (Below.refl _ _)
            go_wp2_with fail
            go_fit (G3.out _ HB18.out)
            rintro e w19 ⟨rfl, hb⟩
            clear g0 g1 g2 g3 g4 g5 g6 g7 g8 g9 g10 g11 g12 g13 g14 g15 g16 g17
            have HB19 := Lib.hid (below_then HB18.out hb)
            have HM19 : Hid (∀ w', Below w19.heap.size w19 w' → w'.cell? ⟨w1.heap.size, 0, none⟩ = some (.int .i64 N) ∧ w'.cell? ⟨w1.heap.size, 1, none⟩ = some (.int .i64 D) ∧ w'.cell? ⟨w2.heap.size, 0, none⟩ = some (.int .i64 M) ∧ w'.cell? ⟨w2.heap.size, 1, none⟩ = some (.int .i64 E) ∧ w'.cell? ⟨w3.heap.size, 0, none⟩ = some (.int .i64 P) ∧ w'.cell? ⟨w3.heap.size, 1, none⟩ = some (.int .i64 F) ∧ w'.cell? ⟨w11.heap.size, 0, none⟩ = some (.int .i64 xN) ∧ w'.cell? ⟨w11.heap.size, 1, none⟩ = some (.int .i64 xD) ∧ w'.cell? ⟨w12.heap.size, 0, none⟩ = some (.int .i64 xN) ∧ w'.cell? ⟨w12.heap.size, 1, none⟩ = some (.int .i64 xD) ∧ w'.cell? ⟨w13.heap.size, 0, none⟩ = some (.int .i64 yN) ∧ w'.cell? ⟨w13.heap.size, 1, none⟩ = some (.int .i64 yD) ∧ w'.cell? ⟨w14.heap.size, 0, none⟩ = some (.int .i64 yN) ∧ w'.cell? ⟨w14.heap.size, 1, none⟩ = some (.int .i64 yD) ∧ w'.cell? ⟨w15.heap.size, 0, none⟩ = some (.int .i64 sN) ∧ w'.cell? ⟨w15.heap.size, 1, none⟩ = some (.int .i64 sD) ∧ w'.cell? ⟨w16.heap.size, 0, none⟩ = some (.int .i64 N) ∧ w'.cell? ⟨w16.heap.size, 1, none⟩ = some (.int .i64 D)) := fun w' h => HM18.out w' (below_then hb h)
            clear hb
            obtain ⟨g0, g1, g2, g3, g4, g5, g6, g7, g8, g9, g10, g11, g12, g13, g14, g15, g16, g17⟩ := HM19.out _ (Below.refl _ _)
            go_wp2_with fail
            go_fit (C9V.out _ HB19.out)
            rintro e w20 ⟨rfl, hb⟩
            go_wp2
            go_ret
            exact ⟨rfl, below_then HWV.out (below_then HB19.out hb)⟩
        · go_wp2_with fail
          go_fit (S2.out _ HB15.out)
          rintro e w16 ⟨⟨tN, tD, tE⟩, ⟨rfl, HS⟩, hb⟩
          clear g0 g1 g2 g3 g4 g5 g6 g7 g8 g9 g10 g11 g12 g13 g14 g15
          have HB16 := Lib.hid (below_then HB15.out (hb.alloc hb.size (.cells #[.int .i64 tN, .int .i64 tD] 23)))
          have HM16 : Hid (∀ w', Below (w16.alloc (.cells #[.int .i64 tN, .int .i64 tD] 23)).heap.size (w16.alloc (.cells #[.int .i64 tN, .int .i64 tD] 23)) w' → w'.cell? ⟨w1.heap.size, 0, none⟩ = some (.int .i64 N) ∧ w'.cell? ⟨w1.heap.size, 1, none⟩ = some (.int .i64 D) ∧ w'.cell? ⟨w2.heap.size, 0, none⟩ = some (.int .i64 M) ∧ w'.cell? ⟨w2.heap.size, 1, none⟩ = some (.int .i64 E) ∧ w'.cell? ⟨w3.heap.size, 0, none⟩ = some (.int .i64 P) ∧ w'.cell? ⟨w3.heap.size, 1, none⟩ = some (.int .i64 F) ∧ w'.cell? ⟨w11.heap.size, 0, none⟩ = some (.int .i64 xN) ∧ w'.cell? ⟨w11.heap.size, 1, none⟩ = some (.int .i64 xD) ∧ w'.cell? ⟨w12.heap.size, 0, none⟩ = some (.int .i64 xN) ∧ w'.cell? ⟨w12.heap.size, 1, none⟩ = some (.int .i64 xD) ∧ w'.cell? ⟨w13.heap.size, 0, none⟩ = some (.int .i64 yN) ∧ w'.cell? ⟨w13.heap.size, 1, none⟩ = some (.int .i64 yD) ∧ w'.cell? ⟨w14.heap.size, 0, none⟩ = some (.int .i64 yN) ∧ w'.cell? ⟨w14.heap.size, 1, none⟩ = some (.int .i64 yD) ∧ w'.cell? ⟨w15.heap.size, 0, none⟩ = some (.int .i64 N) ∧ w'.cell? ⟨w15.heap.size, 1, none⟩ = some (.int .i64 D) ∧ w'.cell? ⟨w16.heap.size, 0, none⟩ = some (.int .i64 tN) ∧ w'.cell? ⟨w16.heap.size, 1, none⟩ = some (.int .i64 tD)) := fun w' h => by
            obtain ⟨q0, q1, q2, q3, q4, q5, q6, q7, q8, q9, q10, q11, q12, q13, q14, q15⟩ := HM15.out w' (below_then (hb.alloc hb.size (.cells #[.int .i64 tN, .int .i64 tD] 23)) h)
            exact ⟨q0, q1, q2, q3, q4, q5, q6, q7, q8, q9, q10, q11, q12, q13, q14, q15, below_cell h ((Cel.new w16 23 #[.int .i64 tN, .int .i64 tD]).cell 0 _ rfl), below_cell h ((Cel.new w16 23 #[.int .i64 tN, .int .i64 tD]).cell 1 _ rfl)⟩
          clear hb
          obtain ⟨g0, g1, g2, g3, g4, g5, g6, g7, g8, g9, g10, g11, g12, g13, g14, g15, g16, g17⟩ := HM16.out _ (Below.refl _ _)
          have hs : (yE == 0) = false ∨ (yE = 0 ∧ M = 0) ∨ (yE = 0 ∧ (M != 0) = true ∧ N = tN ∧ D = tD ∧ tE = 0) := by
            by_cases h : yE = 0
            · by_cases hM : M = 0
              · exact .inr (.inl ⟨h, hM⟩)
              · have := HS h hM
                simp only [RR.mk.injEq] at this
                exact .inr (.inr ⟨h, by simpa using hM, this.1.symm, this.2.1.symm, this.2.2⟩)
            · exact .inl (by simpa using h)
          clear HS S2
          rcases hs with bY | ⟨rfl, hM⟩ | ⟨rfl, bM, rfl, rfl, rfl⟩
          · go_wp2_with fail
            go_fit (G1.out _ HB16.out)
            rintro e w17 ⟨rfl, hb⟩
            clear g0 g1 g2 g3 g4 g5 g6 g7 g8 g9 g10 g11 g12 g13 g14 g15 g16 g17
            have HB17 := Lib.hid (below_then HB16.out hb)
            have HM17 : Hid (∀ w', Below w17.heap.size w17 w' → w'.cell? ⟨w1.heap.size, 0, none⟩ = some (.int .i64 N) ∧ w'.cell? ⟨w1.heap.size, 1, none⟩ = some (.int .i64 D) ∧ w'.cell? ⟨w2.heap.size, 0, none⟩ = some (.int .i64 M) ∧ w'.cell? ⟨w2.heap.size, 1, none⟩ = some (.int .i64 E) ∧ w'.cell? ⟨w3.heap.size, 0, none⟩ = some (.int .i64 P) ∧ w'.cell? ⟨w3.heap.size, 1, none⟩ = some (.int .i64 F) ∧ w'.cell? ⟨w11.heap.size, 0, none⟩ = some (.int .i64 xN) ∧ w'.cell? ⟨w11.heap.size, 1, none⟩ = some (.int .i64 xD) ∧ w'.cell? ⟨w12.heap.size, 0, none⟩ = some (.int .i64 xN) ∧ w'.cell? ⟨w12.heap.size, 1, none⟩ = some (.int .i64 xD) ∧ w'.cell? ⟨w13.heap.size, 0, none⟩ = some (.int .i64 yN) ∧ w'.cell? ⟨w13.heap.size, 1, none⟩ = some (.int .i64 yD) ∧ w'.cell? ⟨w14.heap.size, 0, none⟩ = some (.int .i64 yN) ∧ w'.cell? ⟨w14.heap.size, 1, none⟩ = some (.int .i64 yD) ∧ w'.cell? ⟨w15.heap.size, 0, none⟩ = some (.int .i64 N) ∧ w'.cell? ⟨w15.heap.size, 1, none⟩ = some (.int .i64 D) ∧ w'.cell? ⟨w16.heap.size, 0, none⟩ = some (.int .i64 tN) ∧ w'.cell? ⟨w16.heap.size, 1, none⟩ = some (.int .i64 tD)) := fun w' h => HM16.out w' (below_then hb h)
            clear hb
            obtain ⟨g0, g1, g2, g3, g4, g5, g6, g7, g8, g9, g10, g11, g12, g13, g14, g15, g16, g17⟩ := HM17.out _ (Below.refl _ _)
            go_wp2_with fail
            go_fit (G2.out _ HB17.out)
            rintro e w18 ⟨rfl, hb⟩
            clear g0 g1 g2 g3 g4 g5 g6 g7 g8 g9 g10 g11 g12 g13 g14 g15 g16 g17
            have HB18 := Lib.hid (below_then HB17.out hb)
            have HM18 : Hid (∀ w', Below w18.heap.size w18 w' → w'.cell? ⟨w1.heap.size, 0, none⟩ = some (.int .i64 N) ∧ w'.cell? ⟨w1.heap.size, 1, none⟩ = some (.int .i64 D) ∧ w'.cell? ⟨w2.heap.size, 0, none⟩ = some (.int .i64 M) ∧ w'.cell? ⟨w2.heap.size, 1, none⟩ = some (.int .i64 E) ∧ w'.cell? ⟨w3.heap.size, 0, none⟩ = some (.int .i64 P) ∧ w'.cell? ⟨w3.heap.size, 1, none⟩ = some (.int .i64 F) ∧ w'.cell? ⟨w11.heap.size, 0, none⟩ = some (.int .i64 xN) ∧ w'.cell? ⟨w11.heap.size, 1, none⟩ = some (.int .i64 xD) ∧ w'.cell? ⟨w12.heap.size, 0, none⟩ = some (.int .i64 xN) ∧ w'.cell? ⟨w12.heap.size, 1, none⟩ = some (.int .i64 xD) ∧ w'.cell? ⟨w13.heap.size, 0, none⟩ = some (.int .i64 yN) ∧ w'.cell? ⟨w13.heap.size, 1, none⟩ = some (.int .i64 yD) ∧ w'.cell? ⟨w14.heap.size, 0, none⟩ = some (.int .i64 yN) ∧ w'.cell? ⟨w14.heap.size, 1, none⟩ = some (.int .i64 yD) ∧ w'.cell? ⟨w15.heap.size, 0, none⟩ = some (.int .i64 N) ∧ w'.cell? ⟨w15.heap.size, 1, none⟩ = some (.int .i64 D) ∧ w'.cell? ⟨w16.heap.size, 0, none⟩ = some (.int .i64 tN) ∧ w'.cell? ⟨w16.heap.size, 1, none⟩ = some (.int .i64 tD)) := fun w' h => HM17.out w' (below_then hb h)
            clear hb
            obtain ⟨g0, g1, g2, g3, g4, g5, g6, g7, g8, g9, g10, g11, g12, g13, g14, g15, g16, g17⟩ := HM18.out _ (Below.refl _ _)
            go_wp2_with fail
            go_fit (G3.out _ HB18.out)
            rintro e w19 ⟨rfl, hb⟩
            clear g0 g1 g2 g3 g4 g5 g6 g7 g8 g9 g10 g11 g12 g13 g14 g15 g16 g17
            have HB19 := Lib.hid (below_then HB18.out hb)
            have HM19 : Hid (∀ w', Below w19.heap.size w19 w' → w'.cell? ⟨w1.heap.size, 0, none⟩ = some (.int .i64 N) ∧ w'.cell? ⟨w1.heap.size, 1, none⟩ = some (.int .i64 D) ∧ w'.cell? ⟨w2.heap.size, 0, none⟩ = some (.int .i64 M) ∧ w'.cell? ⟨w2.heap.size, 1, none⟩ = some (.int .i64 E) ∧ w'.cell? ⟨w3.heap.size, 0, none⟩ = some (.int .i64 P) ∧ w'.cell? ⟨w3.heap.size, 1, none⟩ = some (.int .i64 F) ∧ w'.cell? ⟨w11.heap.size, 0, none⟩ = some (.int .i64 xN) ∧ w'.cell? ⟨w11.heap.size, 1, none⟩ = some (.int .i64 xD) ∧ w'.cell? ⟨w12.heap.size, 0, none⟩ = some (.int .i64 xN) ∧ w'.cell? ⟨w12.heap.size, 1, none⟩ = some (.int .i64 xD) ∧ w'.cell? ⟨w13.heap.size, 0, none⟩ = some (.int .i64 yN) ∧ w'.cell? ⟨w13.heap.size, 1, none⟩ = some (.int .i64 yD) ∧ w'.cell? ⟨w14.heap.size, 0, none⟩ = some (.int .i64 yN) ∧ w'.cell? ⟨w14.heap.size, 1, none⟩ = some (.int .i64 yD) ∧ w'.cell? ⟨w15.heap.size, 0, none⟩ = some (.int .i64 N) ∧ w'.cell? ⟨w15.heap.size, 1, none⟩ = some (.int .i64 D) ∧ w'.cell? ⟨w16.heap.size, 0, none⟩ = some (.int .i64 tN) ∧ w'.cell? ⟨w16.heap.size, 1, none⟩ = some (.int .i64 tD)) := fun w' h => HM18.out w' (below_then hb h)
            clear hb
            obtain ⟨g0, g1, g2, g3, g4, g5, g6, g7, g8, g9, g10, g11, g12, g13, g14, g15, g16, g17⟩ := HM19.out _ (Below.refl _ _)
            go_wp2_with fail
            go_fit (C9V.out _ HB19.out)
            rintro e w20 ⟨rfl, hb⟩
            go_wp2
            go_ret
            exact ⟨rfl, below_then HWV.out (below_then HB19.out hb)⟩
          · have bM : (M != 0) = false := by simpa using hM
            clear hM
            go_wp2_with fail
            go_fit (G1.out _ HB16.out)
            rintro e w17 ⟨rfl, hb⟩
            clear g0 g1 g2 g3 g4 g5 g6 g7 g8 g9 g10 g11 g12 g13 g14 g15 g16 g17
            have HB17 := Lib.hid (below_then HB16.out hb)
            have HM17 : Hid (∀ w', Below w17.heap.size w17 w' → w'.cell? ⟨w1.heap.size, 0, none⟩ = some (.int .i64 N) ∧ w'.cell? ⟨w1.heap.size, 1, none⟩ = some (.int .i64 D) ∧ w'.cell? ⟨w2.heap.size, 0, none⟩ = some (.int .i64 M) ∧ w'.cell? ⟨w2.heap.size, 1, none⟩ = some (.int .i64 E) ∧ w'.cell? ⟨w3.heap.size, 0, none⟩ = some (.int .i64 P) ∧ w'.cell? ⟨w3.heap.size, 1, none⟩ = some (.int .i64 F) ∧ w'.cell? ⟨w11.heap.size, 0, none⟩ = some (.int .i64 xN) ∧ w'.cell? ⟨w11.heap.size, 1, none⟩ = some (.int .i64 xD) ∧ w'.cell? ⟨w12.heap.size, 0, none⟩ = some (.int .i64 xN) ∧ w'.cell? ⟨w12.heap.size, 1, none⟩ = some (.int .i64 xD) ∧ w'.cell? ⟨w13.heap.size, 0, none⟩ = some (.int .i64 yN) ∧ w'.cell? ⟨w13.heap.size, 1, none⟩ = some (.int .i64 yD) ∧ w'.cell? ⟨w14.heap.size, 0, none⟩ = some (.int .i64 yN) ∧ w'.cell? ⟨w14.heap.size, 1, none⟩ = some (.int .i64 yD) ∧ w'.cell? ⟨w15.heap.size, 0, none⟩ = some (.int .i64 N) ∧ w'.cell? ⟨w15.heap.size, 1, none⟩ = some (.int .i64 D) ∧ w'.cell? ⟨w16.heap.size, 0, none⟩ = some (.int .i64 tN) ∧ w'.cell? ⟨w16.heap.size, 1, none⟩ = some (.int .i64 tD)) := fun w' h => HM16.out w' (below_then hb h)
            clear hb
            obtain ⟨g0, g1, g2, g3, g4, g5, g6, g7, g8, g9, g10, g11, g12, g13, g14, g15, g16, g17⟩ := HM17.out _ (Below.refl _ _)
            go_wp2_with fail
            go_fit (G2.out _ HB17.out)
            rintro e w18 ⟨rfl, hb⟩
            clear g0 g1 g2 g3 g4 g5 g6 g7 g8 g9 g10 g11 g12 g13 g14 g15 g16 g17
            have HB18 := Lib.hid (below_then HB17.out hb)
            have HM18 : Hid (∀ w', Below w18.heap.size w18 w' → w'.cell? ⟨w1.heap.size, 0, none⟩ = some (.int .i64 N) ∧ w'.cell? ⟨w1.heap.size, 1, none⟩ = some (.int .i64 D) ∧ w'.cell? ⟨w2.heap.size, 0, none⟩ = some (.int .i64 M) ∧ w'.cell? ⟨w2.heap.size, 1, none⟩ = some (.int .i64 E) ∧ w'.cell? ⟨w3.heap.size, 0, none⟩ = some (.int .i64 P) ∧ w'.cell? ⟨w3.heap.size, 1, none⟩ = some (.int .i64 F) ∧ w'.cell? ⟨w11.heap.size, 0, none⟩ = some (.int .i64 xN) ∧ w'.cell? ⟨w11.heap.size, 1, none⟩ = some (.int .i64 xD) ∧ w'.cell? ⟨w12.heap.size, 0, none⟩ = some (.int .i64 xN) ∧ w'.cell? ⟨w12.heap.size, 1, none⟩ = some (.int .i64 xD) ∧ w'.cell? ⟨w13.heap.size, 0, none⟩ = some (.int .i64 yN) ∧ w'.cell? ⟨w13.heap.size, 1, none⟩ = some (.int .i64 yD) ∧ w'.cell? ⟨w14.heap.size, 0, none⟩ = some (.int .i64 yN) ∧ w'.cell? ⟨w14.heap.size, 1, none⟩ = some (.int .i64 yD) ∧ w'.cell? ⟨w15.heap.size, 0, none⟩ = some (.int .i64 N) ∧ w'.cell? ⟨w15.heap.size, 1, none⟩ = some (.int .i64 D) ∧ w'.cell? ⟨w16.heap.size, 0, none⟩ = some (.int .i64 tN) ∧ w'.cell? ⟨w16.heap.size, 1, none⟩ = some (.int .i64 tD)) := fun w' h => HM17.out w' (below_then hb h)
            clear hb
            obtain ⟨g0, g1, g2, g3, g4, g5, g6, g7, g8, g9, g10, g11, g12, g13, g14, g15, g16, g17⟩ := HM18.out _ (Below.refl _ _)
            go_wp2_with fail
            go_fit (G3.out _ HB18.out)
            rintro e w19 ⟨rfl, hb⟩
            clear g0 g1 g2 g3 g4 g5 g6 g7 g8 g9 g10 g11 g12 g13 g14 g15 g16 g17
            have HB19 := Lib.hid (below_then HB18.out hb)
            have HM19 : Hid (∀ w', Below w19.heap.size w19 w' → w'.cell? ⟨w1.heap.size, 0, none⟩ = some (.int .i64 N) ∧ w'.cell? ⟨w1.heap.size, 1, none⟩ = some (.int .i64 D) ∧ w'.cell? ⟨w2.heap.size, 0, none⟩ = some (.int .i64 M) ∧ w'.cell? ⟨w2.heap.size, 1, none⟩ = some (.int .i64 E) ∧ w'.cell? ⟨w3.heap.size, 0, none⟩ = some (.int .i64 P) ∧ w'.cell? ⟨w3.heap.size, 1, none⟩ = some (.int .i64 F) ∧ w'.cell? ⟨w11.heap.size, 0, none⟩ = some (.int .i64 xN) ∧ w'.cell? ⟨w11.heap.size, 1, none⟩ = some (.int .i64 xD) ∧ w'.cell? ⟨w12.heap.size, 0, none⟩ = some (.int .i64 xN) ∧ w'.cell? ⟨w12.heap.size, 1, none⟩ = some (.int .i64 xD) ∧ w'.cell? ⟨w13.heap.size, 0, none⟩ = some (.int .i64 yN) ∧ w'.cell? ⟨w13.heap.size, 1, none⟩ = some (.int .i64 yD) ∧ w'.cell? ⟨w14.heap.size, 0, none⟩ = some (.int .i64 yN) ∧ w'.cell? ⟨w14.heap.size, 1, none⟩ = some (.int .i64 yD) ∧ w'.cell? ⟨w15.heap.size, 0, none⟩ = some (.int .i64 N) ∧ w'.cell? ⟨w15.heap.size, 1, none⟩ = some (.int .i64 D) ∧ w'.cell? ⟨w16.heap.size, 0, none⟩ = some (.int .i64 tN) ∧ w'.cell? ⟨w16.heap.size, 1, none⟩ = some (.int .i64 tD)) := fun w' h => HM18.out w' (below_then hb h)
            clear hb
            obtain ⟨g0, g1, g2, g3, g4, g5, g6, g7, g8, g9, g10, g11, g12, g13, g14, g15, g16, g17⟩ := HM19.out _ (Below.refl _ _)
            go_wp2_with fail
            go_fit (C9V.out _ HB19.out)
            rintro e w20 ⟨rfl, hb⟩
            go_wp2
            go_ret
            exact ⟨rfl, below_then HWV.out (below_then HB19.out hb)⟩
          · go_wp2_with fail
            go_fit (G1.out _ HB16.out)
            rintro e w17 ⟨rfl, hb⟩
            clear g0 g1 g2 g3 g4 g5 g6 g7 g8 g9 g10 g11 g12 g13 g14 g15 g16 g17
            have HB17 := Lib.hid (below_then HB16.out hb)
            have HM17 : Hid (∀ w', Below w17.heap.size w17 w' → w'.cell? ⟨w1.heap.size, 0, none⟩ = some (.int .i64 N) ∧ w'.cell? ⟨w1.heap.size, 1, none⟩ = some (.int .i64 D) ∧ w'.cell? ⟨w2.heap.size, 0, none⟩ = some (.int .i64 M) ∧ w'.cell? ⟨w2.heap.size, 1, none⟩ = some (.int .i64 E) ∧ w'.cell? ⟨w3.heap.size, 0, none⟩ = some (.int .i64 P) ∧ w'.cell? ⟨w3.heap.size, 1, none⟩ = some (.int .i64 F) ∧ w'.cell? ⟨w11.heap.size, 0, none⟩ = some (.int .i64 xN) ∧ w'.cell? ⟨w11.heap.size, 1, none⟩ = some (.int .i64 xD) ∧ w'.cell? ⟨w12.heap.size, 0, none⟩ = some (.int .i64 xN) ∧ w'.cell? ⟨w12.heap.size, 1, none⟩ = some (.int .i64 xD) ∧ w'.cell? ⟨w13.heap.size, 0, none⟩ = some (.int .i64 yN) ∧ w'.cell? ⟨w13.heap.size, 1, none⟩ = some (.int .i64 yD) ∧ w'.cell? ⟨w14.heap.size, 0, none⟩ = some (.int .i64 yN) ∧ w'.cell? ⟨w14.heap.size, 1, none⟩ = some (.int .i64 yD) ∧ w'.cell? ⟨w15.heap.size, 0, none⟩ = some (.int .i64 N) ∧ w'.cell? ⟨w15.heap.size, 1, none⟩ = some (.int .i64 D) ∧ w'.cell? ⟨w16.heap.size, 0, none⟩ = some (.int .i64 N) ∧ w'.cell? ⟨w16.heap.size, 1, none⟩ = some (.int .i64 D)) := fun w' h => HM16.out w' (below_then hb h)
            clear hb
            obtain ⟨g0, g1, g2, g3, g4, g5, g6, g7, g8, g9, g10, g11, g12, g13, g14, g15, g16, g17⟩ := HM17.out _ (Below.refl _ _)
            go_wp2_with fail
            go_fit (G2.out _ HB17.out)
            rintro e w18 ⟨rfl, hb⟩
            clear g0 g1 g2 g3 g4 g5 g6 g7 g8 g9 g10 g11 g12 g13 g14 g15 g16 g17
            have HB18 := Lib.hid (below_then HB17.out hb)
            have HM18 : Hid (∀ w', Below w18.heap.size w18 w' → w'.cell? ⟨w1.heap.size, 0, none⟩ = some (.int .i64 N) ∧ w'.cell? ⟨w1.heap.size, 1, none⟩ = some (.int .i64 D) ∧ w'.cell? ⟨w2.heap.size, 0, none⟩ = some (.int .i64 M) ∧ w'.cell? ⟨w2.heap.size, 1, none⟩ = some (.int .i64 E) ∧ w'.cell? ⟨w3.heap.size, 0, none⟩ = some (.int .i64 P) ∧ w'.cell? ⟨w3.heap.size, 1, none⟩ = some (.int .i64 F) ∧ w'.cell? ⟨w11.heap.size, 0, none⟩ = some (.int .i64 xN) ∧ w'.cell? ⟨w11.heap.size, 1, none⟩ = some (.int .i64 xD) ∧ w'.cell? ⟨w12.heap.size, 0, none⟩ = some (.int .i64 xN) ∧ w'.cell? ⟨w12.heap.size, 1, none⟩ = some (.int .i64 xD) ∧ w'.cell? ⟨w13.heap.size, 0, none⟩ = some (.int .i64 yN) ∧ w'.cell? ⟨w13.heap.size, 1, none⟩ = some (.int .i64 yD) ∧ w'.cell? ⟨w14.heap.size, 0, none⟩ = some (.int .i64 yN) ∧ w'.cell? ⟨w14.heap.size, 1, none⟩ = some (.int .i64 yD) ∧ w'.cell? ⟨w15.heap.size, 0, none⟩ = some (.int .i64 N) ∧ w'.cell? ⟨w15.heap.size, 1, none⟩ = some (.int .i64 D) ∧ w'.cell? ⟨w16.heap.size, 0, none⟩ = some (.int .i64 N) ∧ w'.cell? ⟨w16.heap.size, 1, none⟩ = some (.int .i64 D)) := fun w' h => HM17.out w' (below_then hb h)
            clear hb
            obtain ⟨g0, g1, g2, g3, g4, g5, g6, g7, g8, g9, g10, g11, g12, g13, g14, g15, g16, g17⟩ := HM18.out _ (Below.refl _ _)
            go_wp2_with fail
            go_fit (G3.out _ HB18.out)
            rintro e w19 ⟨rfl, hb⟩
            clear g0 g1 g2 g3 g4 g5 g6 g7 g8 g9 g10 g11 g12 g13 g14 g15 g16 g17
            have HB19 := Lib.hid (below_then HB18.out hb)
            have HM19 : Hid (∀ w', Below w19.heap.size w19 w' → w'.cell? ⟨w1.heap.size, 0, none⟩ = some (.int .i64 N) ∧ w'.cell? ⟨w1.heap.size, 1, none⟩ = some (.int .i64 D) ∧ w'.cell? ⟨w2.heap.size, 0, none⟩ = some (.int .i64 M) ∧ w'.cell? ⟨w2.heap.size, 1, none⟩ = some (.int .i64 E) ∧ w'.cell? ⟨w3.heap.size, 0, none⟩ = some (.int .i64 P) ∧ w'.cell? ⟨w3.heap.size, 1, none⟩ = some (.int .i64 F) ∧ w'.cell? ⟨w11.heap.size, 0, none⟩ = some (.int .i64 xN) ∧ w'.cell? ⟨w11.heap.size, 1, none⟩ = some (.int .i64 xD) ∧ w'.cell? ⟨w12.heap.size, 0, none⟩ = some (.int .i64 xN) ∧ w'.cell? ⟨w12.heap.size, 1, none⟩ = some (.int .i64 xD) ∧ w'.cell? ⟨w13.heap.size, 0, none⟩ = some (.int .i64 yN) ∧ w'.cell? ⟨w13.heap.size, 1, none⟩ = some (.int .i64 yD) ∧ w'.cell? ⟨w14.heap.size, 0, none⟩ = some (.int .i64 yN) ∧ w'.cell? ⟨w14.heap.size, 1, none⟩ = some (.int .i64 yD) ∧ w'.cell? ⟨w15.heap.size, 0, none⟩ = some (.int .i64 N) ∧ w'.cell? ⟨w15.heap.size, 1, none⟩ = some (.int .i64 D) ∧ w'.cell? ⟨w16.heap.size, 0, none⟩ = some (.int .i64 N) ∧ w'.cell? ⟨w16.heap.size, 1, none⟩ = some (.int .i64 D)) := fun w' h => HM18.out w' (below_then hb h)
            clear hb
            obtain ⟨g0, g1, g2, g3, g4, g5, g6, g7, g8, g9, g10, g11, g12, g13, g14, g15, g16, g17⟩ := HM19.out _ (Below.refl _ _)
            go_wp2_with fail
            go_fit (C9V.out _ HB19.out)
            rintro e w20 ⟨rfl, hb⟩
            go_wp2
            go_ret
            exact ⟨rfl, below_then HWV.out (below_then HB19.out hb)⟩
end Go.Proofs.YtmibpncmebhbjaaDoor
