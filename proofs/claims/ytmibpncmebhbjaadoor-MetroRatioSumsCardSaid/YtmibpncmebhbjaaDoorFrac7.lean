/- The reference's Add and Sub. -/
import Derived.Test.YtmibpncmebhbjaaDoorP6
import Derived.Deep.RegionHeld3
namespace Go.Proofs.YtmibpncmebhbjaaDoor
open Go Go.RowKit Go.Shelf
attribute [local go_sem] Oper.semAt_some rrV

theorem rsizeB (n : Int) (w : World) (h : Bd n) : Calls Tryd.prog 89 #[.int .i64 n] w fun e w' => e = .returned (.int .u64 (n.natAbs : Int)) ∧ w = w' := rsize_any n w h.1 h.2
theorem made_ratio (x d : Int) (hx : -9223372036854775808 ≤ x ∧ x ≤ 9223372036854775807) (hd : 1 ≤ d) (hd2 : d ≤ 9223372036854775807) (w : World) :
    Calls Tryd.prog 88 #[.bool (decide (x < 0)), .int .u64 (x.natAbs : Int), .int .u64 d] w fun e w' => e = .returned (rrV (ratioF x d)) ∧ Below w.heap.size w w' := by
  obtain ⟨m, rfl⟩ := Int.eq_ofNat_of_zero_le (show 0 ≤ d by omega)
  have h := made_any (decide (x < 0)) x.natAbs m w (by omega) (by omega) (by omega)
  have e := sgn_ratio' x (m : Int) (by omega)
  rw [decide_eq_false (show ¬ (m : Int) < 0 by omega)] at e
  have e2 : (!(decide (x < 0) == false)) = decide (x < 0) := by cases decide (x < 0) <;> rfl
  rw [e2, Int.natAbs_natCast] at e
  rw [e] at h
  have e3 : ratioF x (m : Int) = fit ((x : Rat) / ((m : Int) : Rat)) := if_neg (by omega)
  rw [e3]
  exact h

set_option maxRecDepth 100000 in
set_option maxHeartbeats 2000000 in
theorem radd_any (N D M E : Int) (w : World) (hN : Bd N) (hD : Bd D) (hM : Bd M) (hE : Bd E) :
    Calls Tryd.prog 77 #[.agg #[.int .i64 N, .int .i64 D], .agg #[.int .i64 M, .int .i64 E]] w fun e w' => e = .returned (rrV (opF N D M E (fit (rat N D + rat M E)))) ∧ Below w.heap.size w w' := by
  obtain ⟨W, hW⟩ : ∃ W, ((w.alloc (.cells #[.int .i64 N, .int .i64 D] 23)).alloc (.cells #[.int .i64 M, .int .i64 E] 23)).alloc (.cells #[.int .i64 0, .int .i64 0] 23) = W := ⟨_, rfl⟩
  have hwW : Below w.heap.size w W := by rw [← hW]; exact (((Below.refl _ _).alloc (Nat.le_refl _) _).alloc (by simp) _).alloc (by simp; omega) _
  have Y0 : Cel W w.heap.size 23 #[.int .i64 N, .int .i64 D] := by rw [← hW]; exact ((Cel.new w _ _).alloc _).alloc _
  have Y1 : Cel W (w.heap.size + 1) 23 #[.int .i64 M, .int .i64 E] := by rw [← hW]; exact (Cel.at _ _ _ _ (by simp)).alloc _
  have Y2 : Cel W (w.heap.size + 1 + 1) 23 #[.int .i64 0, .int .i64 0] := by rw [← hW]; exact Cel.at _ _ _ _ (by simp)
  have HY0 := Lib.hid Y0
  have HY1 := Lib.hid Y1
  have HY2 := Lib.hid Y2
  have HW := Lib.hid hwW
  have a0 := Y0.cell 0 _ rfl
  have a1 := Y0.cell 1 _ rfl
  clear Y0 Y1 Y2 hwW
  go_enter Tryd.func77, Tryd.ntmps77
  go_wp2_with fail
  have hc := risRatio_any N D W hN.1 hN.2 hD.1 hD.2
  by_cases h1 : isR N D = true
  · rw [h1] at hc
    go_fit hc
    rintro e w1 ⟨rfl, hb1⟩
    clear hc a0 a1
    have HZ1 := Lib.hid (HY1.out.below HY1.out.lt hb1)
    have b0 := HZ1.out.cell 0 _ rfl
    have b1 := HZ1.out.cell 1 _ rfl
    go_wp2_with fail
    have hc := risRatio_any M E w1 hM.1 hM.2 hE.1 hE.2
    by_cases h2 : isR M E = true
    · rw [h2] at hc
      go_fit hc
      rintro e w2 ⟨rfl, hb2⟩
      have HZ0 := Lib.hid ((HY0.out.below HY0.out.lt hb1).below (HY0.out.below HY0.out.lt hb1).lt hb2)
      have HX1 := Lib.hid (HZ1.out.below HZ1.out.lt hb2)
      have HX2 := Lib.hid ((HY2.out.below HY2.out.lt hb1).below (HY2.out.below HY2.out.lt hb1).lt hb2)
      have HB := Lib.hid (below_then (below_then HW.out hb1) hb2)
      have HF := Lib.hid (opF_yes (r := fit (rat N D + rat M E)) h1 h2)
      obtain ⟨p1, p2⟩ := prod_bd h1 h2
      obtain ⟨p3, p4⟩ := prod_bd h2 h1
      obtain ⟨p5, p6⟩ := den_bd h1 h2
      have HM := Lib.hid (fun w' => made_ratio (N * E + M * D) (D * E) (by omega) p5 (by omega) w')
      rw [ratioF_add h1 h2] at HM
      have HSZ := Lib.hid (fun w' => rsizeB (N * E + M * D) w' (by unfold Bd; omega))
      obtain ⟨d1, d2, d3, d4⟩ := isR_bd h1
      obtain ⟨e1, e2, e3, e4⟩ := isR_bd h2
      clear hc hb1 hb2 b0 b1 h1 h2 HZ1
      have c0 := HZ0.out.cell 0 _ rfl
      have c1 := HZ0.out.cell 1 _ rfl
      have c2 := HX1.out.cell 0 _ rfl
      have c3 := HX1.out.cell 1 _ rfl
      have hwd : IntKind.u64.wrap (D * E) = D * E := by rw [IntKind.wrap_u64]; omega
      have hwi : IntKind.i64.wrap (D * E) = D * E := by rw [IntKind.wrap_i64]; omega
      obtain ⟨r, hr⟩ : ∃ r, fit (rat N D + rat M E) = r := ⟨_, rfl⟩
      rw [hr] at HM
      have HRR := Lib.hid hr
      clear hr
      obtain ⟨rn, rd, re⟩ := r
      go_upto_region 4 with fail
      go_region_held3 (fun w' => w'.cell? ⟨w.heap.size, 1, none⟩ = some (.int .i64 D) ∧ w'.cell? ⟨w.heap.size + 1, 1, none⟩ = some (.int .i64 E)) (first | exact ⟨x0, x1⟩ | exact ⟨(((HZ3.out.other (p := ⟨w.heap.size + 1 + 1, 0, none⟩) (by simp; omega) _).other (p := ⟨w.heap.size + 1 + 1, 1, none⟩) (by simp; omega) _).cell 1 _ rfl), (((HZ4.out.other (p := ⟨w.heap.size + 1 + 1, 0, none⟩) (by simp) _).other (p := ⟨w.heap.size + 1 + 1, 1, none⟩) (by simp) _).cell 1 _ rfl)⟩ | go_keep)
        (first
        | (go_at_call 89; refine (HSZ.out _).mono ?_; rintro e w' ⟨rfl, rfl⟩)
        | (go_at_call 88; refine (HM.out _).mono ?_; rintro e w3 ⟨rfl, hb3⟩; have hb3' := (show Below w2.heap.size w2 w3 from below_undrew (by simpa using hb3)); have x0 := (HZ0.out.below HZ0.out.lt hb3').cell 1 _ rfl; have x1 := (HX1.out.below HX1.out.lt hb3').cell 1 _ rfl; have HZ3 := Lib.hid (HZ0.out.below HZ0.out.lt hb3'); have HZ4 := Lib.hid (HX1.out.below HX1.out.lt hb3'); have HX3 := Lib.hid (HX2.out.below HX2.out.lt hb3'); have y0 := HX3.out.cell 0 _ rfl; have y1 := HX3.out.cell 1 _ rfl; have f0 := HX3.out.frozen 0; have f1 := HX3.out.frozen 1; have HB3 := Lib.hid (below_then HB.out hb3'); clear hb3 hb3'))
      all_goals
        go_wp2
        have k5 := HX3.out.set2 (.int .i64 rn) (.int .i64 rd)
        have s0 := k5.cell 0 (.int .i64 rn) rfl
        have s1 := k5.cell 1 (.int .i64 rd) rfl
        exact bodyPost_ret (v := .tuple #[.agg #[.int .i64 rn, .int .i64 rd], .int .i64 re]) (by simp [results, Tryd.results77, go_sem, s0, s1]) rfl
          ⟨by rw [HF.out, HRR.out] <;> rfl, (by repeat (first | exact HB3.out | refine Below.drew ?_ | refine below_drewN ?_ _ | refine Below.setCell ?_ (by simp; omega) _))⟩
    · have h2 : isR M E = false := by simpa using h2
      rw [h2] at hc
      go_fit hc
      rintro e w2 ⟨rfl, hb2⟩
      have hX2 := (HY2.out.below HY2.out.lt hb1).below (HY2.out.below HY2.out.lt hb1).lt hb2
      have HB := Lib.hid (below_then (below_then HW.out hb1) hb2)
      have r0 := hX2.cell 0 (.int .i64 0) rfl
      have r1 := hX2.cell 1 (.int .i64 0) rfl
      have f0 := hX2.frozen 0
      have f1 := hX2.frozen 1
      have k5 := hX2.set2 (.int .i64 0) (.int .i64 0)
      have s0 := k5.cell 0 (.int .i64 0) rfl
      have s1 := k5.cell 1 (.int .i64 0) rfl
      have HF := Lib.hid (opF_no2 (r := fit (rat N D + rat M E)) (N := N) (D := D) h2)
      clear hc hb1 hb2 hX2 k5
      go_wp2
      exact bodyPost_ret (v := .tuple #[.agg #[.int .i64 0, .int .i64 0], .int .i64 2]) (by simp [results, Tryd.results77, go_sem, s0, s1]) rfl ⟨by rw [HF.out] <;> rfl, (HB.out.setCell (p := ⟨w.heap.size + 1 + 1, 0, none⟩) (by simp; omega) _).setCell (p := ⟨w.heap.size + 1 + 1, 1, none⟩) (by simp; omega) _⟩
  · have h1 : isR N D = false := by simpa using h1
    rw [h1] at hc
    go_fit hc
    rintro e w1 ⟨rfl, hb1⟩
    have hX2 := HY2.out.below HY2.out.lt hb1
    have HB := Lib.hid (below_then HW.out hb1)
    have r0 := hX2.cell 0 (.int .i64 0) rfl
    have r1 := hX2.cell 1 (.int .i64 0) rfl
    have f0 := hX2.frozen 0
    have f1 := hX2.frozen 1
    have k5 := hX2.set2 (.int .i64 0) (.int .i64 0)
    have s0 := k5.cell 0 (.int .i64 0) rfl
    have s1 := k5.cell 1 (.int .i64 0) rfl
    have HF := Lib.hid (opF_no1 (r := fit (rat N D + rat M E)) (M := M) (E := E) h1)
    clear hc hb1 hX2 k5
    go_wp2
    exact bodyPost_ret (v := .tuple #[.agg #[.int .i64 0, .int .i64 0], .int .i64 2]) (by simp [results, Tryd.results77, go_sem, s0, s1]) rfl ⟨by rw [HF.out] <;> rfl, (HB.out.setCell (p := ⟨w.heap.size + 1 + 1, 0, none⟩) (by simp; omega) _).setCell (p := ⟨w.heap.size + 1 + 1, 1, none⟩) (by simp; omega) _⟩

theorem isR_neg (M E : Int) : isR (-M) E = isR M E := by
  have h : ∀ x y, isR x y = true ↔ 1 ≤ y ∧ y ≤ 1048576 ∧ -1099511627776 ≤ x ∧ x ≤ 1099511627776 ∧ Nat.gcd x.natAbs y.natAbs = 1 := fun x y => isR_iff
  have : isR (-M) E = true ↔ isR M E = true := by
    rw [h, h, Int.natAbs_neg]
    constructor <;> rintro ⟨a, b, c, d, e⟩ <;> exact ⟨a, b, by omega, by omega, e⟩
  cases h1 : isR (-M) E <;> cases h2 : isR M E <;> simp_all
theorem rat_neg (M E : Int) : rat (-M) E = -rat M E := by
  unfold rat
  have : ((-M : Int) : Rat) = -(M : Rat) := by norm_cast
  rw [this, Rat.div_def, Rat.div_def, Rat.neg_mul]

set_option maxRecDepth 100000 in
set_option maxHeartbeats 2000000 in
theorem rsub_any (N D M E : Int) (w : World) (hN : Bd N) (hD : Bd D) (hM : Bd M) (hE : Bd E) :
    Calls Tryd.prog 78 #[.agg #[.int .i64 N, .int .i64 D], .agg #[.int .i64 M, .int .i64 E]] w fun e w' => e = .returned (rrV (opF N D M E (fit (rat N D - rat M E)))) ∧ Below w.heap.size w w' := by
  obtain ⟨W, hW⟩ : ∃ W, ((w.alloc (.cells #[.int .i64 N, .int .i64 D] 23)).alloc (.cells #[.int .i64 M, .int .i64 E] 23)).alloc (.cells #[.int .i64 0, .int .i64 0] 23) = W := ⟨_, rfl⟩
  have hwW : Below w.heap.size w W := by rw [← hW]; exact (((Below.refl _ _).alloc (Nat.le_refl _) _).alloc (by simp) _).alloc (by simp; omega) _
  have Y0 : Cel W w.heap.size 23 #[.int .i64 N, .int .i64 D] := by rw [← hW]; exact ((Cel.new w _ _).alloc _).alloc _
  have Y1 : Cel W (w.heap.size + 1) 23 #[.int .i64 M, .int .i64 E] := by rw [← hW]; exact (Cel.at _ _ _ _ (by simp)).alloc _
  have Y2 : Cel W (w.heap.size + 1 + 1) 23 #[.int .i64 0, .int .i64 0] := by rw [← hW]; exact Cel.at _ _ _ _ (by simp)
  have HY0 := Lib.hid Y0
  have HY1 := Lib.hid Y1
  have HY2 := Lib.hid Y2
  have HW := Lib.hid hwW
  have a0 := Y0.cell 0 _ rfl
  have a1 := Y0.cell 1 _ rfl
  clear Y0 Y1 Y2 hwW
  go_enter Tryd.func78, Tryd.ntmps78
  go_wp2_with fail
  have hc := risRatio_any N D W hN.1 hN.2 hD.1 hD.2
  by_cases h1 : isR N D = true
  · rw [h1] at hc
    go_fit hc
    rintro e w1 ⟨rfl, hb1⟩
    clear hc a0 a1
    have HZ1 := Lib.hid (HY1.out.below HY1.out.lt hb1)
    have b0 := HZ1.out.cell 0 _ rfl
    have b1 := HZ1.out.cell 1 _ rfl
    go_wp2_with fail
    have hc := risRatio_any M E w1 hM.1 hM.2 hE.1 hE.2
    by_cases h2 : isR M E = true
    · rw [h2] at hc
      go_fit hc
      rintro e w2 ⟨rfl, hb2⟩
      have HZ0 := Lib.hid ((HY0.out.below HY0.out.lt hb1).below (HY0.out.below HY0.out.lt hb1).lt hb2)
      have HX1 := Lib.hid (HZ1.out.below HZ1.out.lt hb2)
      have HX2 := Lib.hid ((HY2.out.below HY2.out.lt hb1).below (HY2.out.below HY2.out.lt hb1).lt hb2)
      have HB := Lib.hid (below_then (below_then HW.out hb1) hb2)
      have HF := Lib.hid (opF_yes (r := fit (rat N D - rat M E)) h1 h2)
      have hA := fun w' => radd_any N D (-M) E w' hN hD (by have := isR_bd h2; unfold Bd; omega) hE
      rw [opF_yes h1 (by rw [isR_neg]; exact h2), rat_neg, ← Rat.sub_eq_add_neg] at hA
      have HA := Lib.hid hA
      obtain ⟨e1, e2, e3, e4⟩ := isR_bd h2
      clear hc hb1 hb2 b0 b1 h1 h2 HZ1 hA
      have c0 := HZ0.out.cell 0 _ rfl
      have c1 := HZ0.out.cell 1 _ rfl
      have c2 := HX1.out.cell 0 _ rfl
      have c3 := HX1.out.cell 1 _ rfl
      obtain ⟨r, hr⟩ : ∃ r, fit (rat N D - rat M E) = r := ⟨_, rfl⟩
      rw [hr] at HA
      have HRR := Lib.hid hr
      clear hr
      obtain ⟨rn, rd, re⟩ := r
      go_wp2_with fail
      go_fit (HA.out w2)
      rintro e w3 ⟨rfl, hb3⟩
      have hX3 := HX2.out.below HX2.out.lt hb3
      have HB3 := Lib.hid (below_then HB.out hb3)
      have r0 := hX3.cell 0 (.int .i64 0) rfl
      have r1 := hX3.cell 1 (.int .i64 0) rfl
      have f0 := hX3.frozen 0
      have f1 := hX3.frozen 1
      have k5 := hX3.set2 (.int .i64 rn) (.int .i64 rd)
      have s0 := k5.cell 0 (.int .i64 rn) rfl
      have s1 := k5.cell 1 (.int .i64 rd) rfl
      clear hb3 hX3 k5 HA c0 c1 c2 c3
      go_wp2
      exact bodyPost_ret (v := .tuple #[.agg #[.int .i64 rn, .int .i64 rd], .int .i64 re]) (by simp [results, Tryd.results78, go_sem, s0, s1]) rfl
          ⟨by rw [HF.out, HRR.out] <;> rfl, (HB3.out.setCell (p := ⟨w.heap.size + 1 + 1, 0, none⟩) (by simp; omega) _).setCell (p := ⟨w.heap.size + 1 + 1, 1, none⟩) (by simp; omega) _⟩
    · have h2 : isR M E = false := by simpa using h2
      rw [h2] at hc
      go_fit hc
      rintro e w2 ⟨rfl, hb2⟩
      have hX2 := (HY2.out.below HY2.out.lt hb1).below (HY2.out.below HY2.out.lt hb1).lt hb2
      have HB := Lib.hid (below_then (below_then HW.out hb1) hb2)
      have r0 := hX2.cell 0 (.int .i64 0) rfl
      have r1 := hX2.cell 1 (.int .i64 0) rfl
      have f0 := hX2.frozen 0
      have f1 := hX2.frozen 1
      have k5 := hX2.set2 (.int .i64 0) (.int .i64 0)
      have s0 := k5.cell 0 (.int .i64 0) rfl
      have s1 := k5.cell 1 (.int .i64 0) rfl
      have HF := Lib.hid (opF_no2 (r := fit (rat N D - rat M E)) (N := N) (D := D) h2)
      clear hc hb1 hb2 hX2 k5
      go_wp2
      exact bodyPost_ret (v := .tuple #[.agg #[.int .i64 0, .int .i64 0], .int .i64 2]) (by simp [results, Tryd.results78, go_sem, s0, s1]) rfl ⟨by rw [HF.out] <;> rfl, (HB.out.setCell (p := ⟨w.heap.size + 1 + 1, 0, none⟩) (by simp; omega) _).setCell (p := ⟨w.heap.size + 1 + 1, 1, none⟩) (by simp; omega) _⟩
  · have h1 : isR N D = false := by simpa using h1
    rw [h1] at hc
    go_fit hc
    rintro e w1 ⟨rfl, hb1⟩
    have hX2 := HY2.out.below HY2.out.lt hb1
    have HB := Lib.hid (below_then HW.out hb1)
    have r0 := hX2.cell 0 (.int .i64 0) rfl
    have r1 := hX2.cell 1 (.int .i64 0) rfl
    have f0 := hX2.frozen 0
    have f1 := hX2.frozen 1
    have k5 := hX2.set2 (.int .i64 0) (.int .i64 0)
    have s0 := k5.cell 0 (.int .i64 0) rfl
    have s1 := k5.cell 1 (.int .i64 0) rfl
    have HF := Lib.hid (opF_no1 (r := fit (rat N D - rat M E)) (M := M) (E := E) h1)
    clear hc hb1 hX2 k5
    go_wp2
    exact bodyPost_ret (v := .tuple #[.agg #[.int .i64 0, .int .i64 0], .int .i64 2]) (by simp [results, Tryd.results78, go_sem, s0, s1]) rfl ⟨by rw [HF.out] <;> rfl, (HB.out.setCell (p := ⟨w.heap.size + 1 + 1, 0, none⟩) (by simp; omega) _).setCell (p := ⟨w.heap.size + 1 + 1, 1, none⟩) (by simp; omega) _⟩
end Go.Proofs.YtmibpncmebhbjaaDoor
