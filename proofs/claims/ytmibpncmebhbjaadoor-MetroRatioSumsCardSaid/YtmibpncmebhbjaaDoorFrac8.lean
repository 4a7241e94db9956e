/- The reference's Mul and Div. -/
import Derived.Test.YtmibpncmebhbjaaDoorFrac5
import Derived.Test.YtmibpncmebhbjaaDoorFrac7
import Derived.Test.YtmibpncmebhbjaaDoorMul3
namespace Go.Proofs.YtmibpncmebhbjaaDoor
open Go Go.RowKit Go.Shelf
attribute [local go_sem] Oper.semAt_some rrV

theorem prodE_two (N D M E : Int) : prodE [(N, D), (M, E)] = opF N D M E (mulR N D M E) := by
  unfold prodE opF mulR
  rw [if_neg (by simp)]
  simp only [isRsB, List.all_cons, List.all_nil, Bool.and_true]
  rw [prodQ2]
theorem divval {N D M E : Int} (hN : N ≠ 0) (hM : M ≠ 0) (hD : 1 ≤ D) (hE : 1 ≤ E) : sgn (decide (N < 0) != decide (M < 0)) (val [N.natAbs, E.natAbs] [D.natAbs, M.natAbs]) = rat N D / rat M E := by
  have e1 := sgn_ratio N D (by omega)
  have e2 := sgn_ratio M E (by omega)
  rw [decide_eq_false (show ¬ D < 0 by omega)] at e1
  rw [decide_eq_false (show ¬ E < 0 by omega)] at e2
  unfold rat
  rw [← e1, ← e2]
  have c : ∀ x : Int, x ≠ 0 → ((x.natAbs : Nat) : Rat) ≠ 0 := fun x hx h => by
    have : x.natAbs = 0 := by exact_mod_cast h
    omega
  have h1 := c M hM
  have h2 := c N hN
  have h3 := c D (by omega)
  have h4 := c E (by omega)
  have e3 : val [N.natAbs, E.natAbs] [D.natAbs, M.natAbs] = val [N.natAbs] [D.natAbs] / val [M.natAbs] [E.natAbs] := by
    simp [val, prodN]
    grind
  rw [e3]
  generalize val [N.natAbs] [D.natAbs] = a
  generalize val [M.natAbs] [E.natAbs] = b
  cases decide (N < 0) <;> cases decide (M < 0) <;> simp [sgn] <;> grind
theorem isR_zero {D : Int} (h : isR 0 D = true) : D = 1 := by
  obtain ⟨h1, _, _, _, h5⟩ := isR_iff.1 h
  simp at h5
  omega

set_option maxRecDepth 100000 in
set_option maxHeartbeats 1000000 in
theorem rmul_any (N D M E : Int) (w : World) (hN : Bd N) (hD : Bd D) (hM : Bd M) (hE : Bd E) :
    Calls Tryd.prog 79 #[.agg #[.int .i64 N, .int .i64 D], .agg #[.int .i64 M, .int .i64 E]] w fun e w' => e = .returned (rrV (opF N D M E (mulR N D M E))) ∧ Below w.heap.size w w' := by
  obtain ⟨W, hW⟩ : ∃ W, ((w.alloc (.cells #[.int .i64 N, .int .i64 D] 23)).alloc (.cells #[.int .i64 M, .int .i64 E] 23)).alloc (.cells #[.int .i64 0, .int .i64 0] 23) = W := ⟨_, rfl⟩
  have hwW : Below w.heap.size w W := by rw [← hW]; exact (((Below.refl _ _).alloc (Nat.le_refl _) _).alloc (by simp) _).alloc (by simp; omega) _
  have Y0 : Cel W w.heap.size 23 #[.int .i64 N, .int .i64 D] := by rw [← hW]; exact ((Cel.new w _ _).alloc _).alloc _
  have Y1 : Cel W (w.heap.size + 1) 23 #[.int .i64 M, .int .i64 E] := by rw [← hW]; exact (Cel.at _ _ _ _ (by simp)).alloc _
  have Y2 : Cel W (w.heap.size + 1 + 1) 23 #[.int .i64 0, .int .i64 0] := by rw [← hW]; exact Cel.at _ _ _ _ (by simp)
  have a0 := Y0.cell 0 _ rfl
  have a1 := Y0.cell 1 _ rfl
  have b0 := Y1.cell 0 _ rfl
  have b1 := Y1.cell 1 _ rfl
  have hS := Sl.new (s := 2) W 23 2 2 #[.int .i64 N, .int .i64 D, .int .i64 M, .int .i64 E] rfl (by omega) (by omega)
  have hc := rProduct_any [(N, D), (M, E)] _ _ hS (fun r hr => by simp at hr; rcases hr with e | e <;> subst e <;> exact ⟨by assumption, by assumption⟩)
  rw [prodE_two] at hc
  have hWs : W.heap.size = w.heap.size + 1 + 1 + 1 := by rw [← hW]; simp
  have HC := Lib.hid hc
  have HX := Lib.hid (Y2.alloc (.cells #[.int .i64 N, .int .i64 D, .int .i64 M, .int .i64 E] 23))
  have HB := Lib.hid (hwW.alloc hwW.size (.cells #[.int .i64 N, .int .i64 D, .int .i64 M, .int .i64 E] 23))
  have HWS := Lib.hid hWs
  clear Y0 Y1 Y2 hwW hS hc hWs
  go_enter Tryd.func79, Tryd.ntmps79
  go_wp2_with fail
  go_fit HC.out
  rintro e w1 ⟨rfl, hb1⟩
  have hX := HX.out.below HX.out.lt hb1
  have HB1 := Lib.hid (below_then HB.out hb1)
  obtain ⟨r, hr⟩ : ∃ r, opF N D M E (mulR N D M E) = r := ⟨_, rfl⟩
  rw [hr]
  have HRR := Lib.hid hr
  have r0 := hX.cell 0 (.int .i64 0) rfl
  have r1 := hX.cell 1 (.int .i64 0) rfl
  have f0 := hX.frozen 0
  have f1 := hX.frozen 1
  have k5 := hX.set2 (.int .i64 r.n) (.int .i64 r.d)
  have s0 := k5.cell 0 (.int .i64 r.n) rfl
  have s1 := k5.cell 1 (.int .i64 r.d) rfl
  clear hb1 hX k5 HC hr
  go_wp2
  exact bodyPost_ret (v := .tuple #[.agg #[.int .i64 r.n, .int .i64 r.d], .int .i64 r.e]) (by simp [results, Tryd.results79, go_sem, s0, s1]) rfl
    ⟨by rw [HRR.out] <;> rfl, (HB1.out.setCell (p := ⟨w.heap.size + 1 + 1, 0, none⟩) (by simp; omega) _).setCell (p := ⟨w.heap.size + 1 + 1, 1, none⟩) (by simp; omega) _⟩

set_option maxRecDepth 100000 in
set_option maxHeartbeats 2000000 in
theorem rdiv_any (N D M E : Int) (w : World) (hN : Bd N) (hD : Bd D) (hM : Bd M) (hE : Bd E) :
    Calls Tryd.prog 80 #[.agg #[.int .i64 N, .int .i64 D], .agg #[.int .i64 M, .int .i64 E]] w fun e w' => e = .returned (rrV (opF N D M E (divR N D M E))) ∧ Below w.heap.size w w' := by
  obtain ⟨W, hW⟩ : ∃ W, ((w.alloc (.cells #[.int .i64 N, .int .i64 D] 23)).alloc (.cells #[.int .i64 M, .int .i64 E] 23)).alloc (.cells #[.int .i64 0, .int .i64 0] 23) = W := ⟨_, rfl⟩
  have hwW : Below w.heap.size w W := by rw [← hW]; exact (((Below.refl _ _).alloc (Nat.le_refl _) _).alloc (by simp) _).alloc (by simp; omega) _
  have Y0 : Cel W w.heap.size 23 #[.int .i64 N, .int .i64 D] := by rw [← hW]; exact ((Cel.new w _ _).alloc _).alloc _
  have Y1 : Cel W (w.heap.size + 1) 23 #[.int .i64 M, .int .i64 E] := by rw [← hW]; exact (Cel.at _ _ _ _ (by simp)).alloc _
  have Y2 : Cel W (w.heap.size + 1 + 1) 23 #[.int .i64 0, .int .i64 0] := by rw [← hW]; exact Cel.at _ _ _ _ (by simp)
  have HY0 := Lib.hid Y0
  have HY1 := Lib.hid Y1
  have HY2 := Lib.hid Y2
  have HW := Lib.hid hwW
  have a0 := Y0.cell 0 _ rfl
  have a1 := Y0.cell 1 _ rfl
  clear Y0 Y1 Y2 hwW
  go_enter Tryd.func80, Tryd.ntmps80
  go_wp2_with fail
  have hc := risRatio_any N D W hN.1 hN.2 hD.1 hD.2
  by_cases h1 : isR N D = true
  · rw [h1] at hc
    go_fit hc
    rintro e w1 ⟨rfl, hb1⟩
    clear hc a0 a1
    have HZ1 := Lib.hid (HY1.out.below HY1.out.lt hb1)
    have b0 := HZ1.out.cell 0 _ rfl
    have b1 := HZ1.out.cell 1 _ rfl
    go_wp2_with fail
    have hc := risRatio_any M E w1 hM.1 hM.2 hE.1 hE.2
    by_cases h2 : isR M E = true
    · rw [h2] at hc
      go_fit hc
      rintro e w2 ⟨rfl, hb2⟩
      have HZ0 := Lib.hid ((HY0.out.below HY0.out.lt hb1).below (HY0.out.below HY0.out.lt hb1).lt hb2)
      have HX1 := Lib.hid (HZ1.out.below HZ1.out.lt hb2)
      have HX2 := Lib.hid ((HY2.out.below HY2.out.lt hb1).below (HY2.out.below HY2.out.lt hb1).lt hb2)
      have HB := Lib.hid (below_then (below_then HW.out hb1) hb2)
      have HF := Lib.hid (opF_yes (r := divR N D M E) h1 h2)
      clear hc hb1 hb2 b0 b1 HZ1
      have c0 := HZ0.out.cell 0 _ rfl
      have c1 := HZ0.out.cell 1 _ rfl
      have c2 := HX1.out.cell 0 _ rfl
      have c3 := HX1.out.cell 1 _ rfl
      have r0 := HX2.out.cell 0 (.int .i64 0) rfl
      have r1 := HX2.out.cell 1 (.int .i64 0) rfl
      have f0 := HX2.out.frozen 0
      have f1 := HX2.out.frozen 1
      by_cases hM0 : M = 0
      · have HG := Lib.hid (show divR N D M E = ⟨0, 0, 9⟩ from if_pos hM0)
        have k5 := HX2.out.set2 (.int .i64 0) (.int .i64 0)
        have s0 := k5.cell 0 (.int .i64 0) rfl
        have s1 := k5.cell 1 (.int .i64 0) rfl
        have bM : (M == 0) = true := by simpa using hM0
        clear h1 h2 hM0 k5
        go_wp2
        exact bodyPost_ret (v := .tuple #[.agg #[.int .i64 0, .int .i64 0], .int .i64 9]) (by simp [results, Tryd.results80, go_sem, s0, s1]) rfl ⟨by rw [HF.out, HG.out] <;> rfl, (HB.out.setCell (p := ⟨w.heap.size + 1 + 1, 0, none⟩) (by simp; omega) _).setCell (p := ⟨w.heap.size + 1 + 1, 1, none⟩) (by simp; omega) _⟩
      · have HG := Lib.hid (show divR N D M E = fit (rat N D / rat M E) from if_neg hM0)
        have bM : (M == 0) = false := by simpa using hM0
        have hd := isR_bd h1
        have he := isR_bd h2
        by_cases hN0 : N = 0
        · have HQ := Lib.hid (show fit (rat N D / rat M E) = ⟨0, 1, 0⟩ by
            have e : rat N D / rat M E = 0 := by unfold rat; subst hN0; rw [Rat.div_def, Rat.div_def]; have : ((0 : Int) : Rat) = 0 := rfl; rw [this]; grind
            rw [e, fit_zero])
          subst hN0
          obtain rfl := isR_zero h1
          have k5 := HX2.out.set2 (.int .i64 0) (.int .i64 1)
          have s0 := k5.cell 0 (.int .i64 0) rfl
          have s1 := k5.cell 1 (.int .i64 1) rfl
          clear h1 h2 hM0 k5 hd he
          go_wp2
          exact bodyPost_ret (v := .tuple #[.agg #[.int .i64 0, .int .i64 1], .int .i64 0]) (by simp [results, Tryd.results80, go_sem, s0, s1]) rfl ⟨by rw [HF.out, HG.out, HQ.out] <;> rfl, (HB.out.setCell (p := ⟨w.heap.size + 1 + 1, 0, none⟩) (by simp; omega) _).setCell (p := ⟨w.heap.size + 1 + 1, 1, none⟩) (by simp; omega) _⟩
        · have bN : (N == 0) = false := by simpa using hN0
          have HV := Lib.hid (divval hN0 hM0 hd.1 he.1)
          have on : Ones ([] ++ [N.natAbs] ++ [E.natAbs]) := Ones.cons (by omega) (by omega) (Ones.cons (by omega) (by omega) Ones.nil)
          have od : Ones ([] ++ [D.natAbs] ++ [M.natAbs]) := Ones.cons (by omega) (by omega) (Ones.cons (by omega) (by omega) Ones.nil)
          have ON := Lib.hid on
          have OD := Lib.hid od
          have hsz := HB.out.size
          have HFR := Lib.hid (FrO.new (w := w2) false)
          have HB1 := Lib.hid (HB.out.alloc hsz (.cells #[.bool false, .slice none 0 0, .slice none 0 0] 150))
          have HZ0' := Lib.hid (HZ0.out.alloc (.cells #[.bool false, .slice none 0 0, .slice none 0 0] 150))
          have HX1' := Lib.hid (HX1.out.alloc (.cells #[.bool false, .slice none 0 0, .slice none 0 0] 150))
          have HX2' := Lib.hid (HX2.out.alloc (.cells #[.bool false, .slice none 0 0, .slice none 0 0] 150))
          have l2 := HX2.out.lt
          have d0 := HZ0'.out.cell 0 (.int .i64 N) rfl
          have d1 := HZ0'.out.cell 1 (.int .i64 D) rfl
          clear h1 h2 hM0 hN0 hd he on od
          go_wp2_with fail
          go_fit (ftimes_any _ _ _ _ _ N D _ HFR.out (by simp) hN hD (by simp) (by simp))
          rintro e w3 ⟨rfl, hfr, hb3⟩
          have hc1 := (HX1'.out.below (by omega) hb3)
          have HZ3 := Lib.hid (HX2'.out.below l2 hb3)
          have c2 := hc1.cell 0 (.int .i64 M) rfl
          have c3 := hc1.cell 1 (.int .i64 E) rfl
          have HB3 := Lib.hid (HB1.out.trans (hb3.mono hsz))
          have HFR3 := Lib.hid hfr
          have hs3 : w2.heap.size + 1 ≤ w3.heap.size := by have := hb3.size; simp at this; omega
          clear hfr hb3 hc1 d0 d1 c0 c1 r0 r1 f0 f1 HZ0' HX1' HX2' HB1 HFR HZ0 HX1 HX2
          go_wp2_with fail
          go_fit (fover_any _ _ _ _ _ M E _ HFR3.out hs3 hM hE (by simp) (by simp))
          rintro e w4 ⟨rfl, hfr, hb4⟩
          have HZ4 := Lib.hid (HZ3.out.below l2 hb4)
          have HB4 := Lib.hid (HB3.out.trans (hb4.mono hsz))
          have HFR4 := Lib.hid hfr
          have hs4 : w2.heap.size + 1 ≤ w4.heap.size := by have := hb4.size; omega
          clear hfr hb4 HZ3 HB3 HFR3 c2 c3
          go_wp2_with fail
          have hc := fvalue_any _ _ _ _ _ _ HFR4.out hs4 ON.out OD.out
          have hq : sgn ((false != decide (N < 0)) != decide (M < 0)) (val ([] ++ [N.natAbs] ++ [E.natAbs]) ([] ++ [D.natAbs] ++ [M.natAbs])) = rat N D / rat M E := by
            rw [← HV.out]
            simp
          rw [hq] at hc
          go_fit hc
          rintro e w5 ⟨rfl, hb5⟩
          have hX := HZ4.out.below (by omega) hb5
          have HB5 := Lib.hid (HB4.out.trans (hb5.mono (by omega)))
          obtain ⟨r, hr⟩ : ∃ r, fit (rat N D / rat M E) = r := ⟨_, rfl⟩
          rw [hr]
          have HRR := Lib.hid hr
          have r0 := hX.cell 0 (.int .i64 0) rfl
          have r1 := hX.cell 1 (.int .i64 0) rfl
          have f0 := hX.frozen 0
          have f1 := hX.frozen 1
          have k5 := hX.set2 (.int .i64 r.n) (.int .i64 r.d)
          have s0 := k5.cell 0 (.int .i64 r.n) rfl
          have s1 := k5.cell 1 (.int .i64 r.d) rfl
          clear hb5 hX k5 hc hr hq
          go_wp2
          exact bodyPost_ret (v := .tuple #[.agg #[.int .i64 r.n, .int .i64 r.d], .int .i64 r.e]) (by simp [results, Tryd.results80, go_sem, s0, s1]) rfl
            ⟨by rw [HF.out, HG.out, HRR.out] <;> rfl, (HB5.out.setCell (p := ⟨w.heap.size + 1 + 1, 0, none⟩) (by simp; omega) _).setCell (p := ⟨w.heap.size + 1 + 1, 1, none⟩) (by simp; omega) _⟩
    · have h2 : isR M E = false := by simpa using h2
      rw [h2] at hc
      go_fit hc
      rintro e w2 ⟨rfl, hb2⟩
      have hX2 := (HY2.out.below HY2.out.lt hb1).below (HY2.out.below HY2.out.lt hb1).lt hb2
      have HB := Lib.hid (below_then (below_then HW.out hb1) hb2)
      have r0 := hX2.cell 0 (.int .i64 0) rfl
      have r1 := hX2.cell 1 (.int .i64 0) rfl
      have f0 := hX2.frozen 0
      have f1 := hX2.frozen 1
      have k5 := hX2.set2 (.int .i64 0) (.int .i64 0)
      have s0 := k5.cell 0 (.int .i64 0) rfl
      have s1 := k5.cell 1 (.int .i64 0) rfl
      have HF := Lib.hid (opF_no2 (r := divR N D M E) (N := N) (D := D) h2)
      clear hc hb1 hb2 hX2 k5
      go_wp2
      exact bodyPost_ret (v := .tuple #[.agg #[.int .i64 0, .int .i64 0], .int .i64 2]) (by simp [results, Tryd.results80, go_sem, s0, s1]) rfl ⟨by rw [HF.out] <;> rfl, (HB.out.setCell (p := ⟨w.heap.size + 1 + 1, 0, none⟩) (by simp; omega) _).setCell (p := ⟨w.heap.size + 1 + 1, 1, none⟩) (by simp; omega) _⟩
  · have h1 : isR N D = false := by simpa using h1
    rw [h1] at hc
    go_fit hc
    rintro e w1 ⟨rfl, hb1⟩
    have hX2 := HY2.out.below HY2.out.lt hb1
    have HB := Lib.hid (below_then HW.out hb1)
    have r0 := hX2.cell 0 (.int .i64 0) rfl
    have r1 := hX2.cell 1 (.int .i64 0) rfl
    have f0 := hX2.frozen 0
    have f1 := hX2.frozen 1
    have k5 := hX2.set2 (.int .i64 0) (.int .i64 0)
    have s0 := k5.cell 0 (.int .i64 0) rfl
    have s1 := k5.cell 1 (.int .i64 0) rfl
    have HF := Lib.hid (opF_no1 (r := divR N D M E) (M := M) (E := E) h1)
    clear hc hb1 hX2 k5
    go_wp2
    exact bodyPost_ret (v := .tuple #[.agg #[.int .i64 0, .int .i64 0], .int .i64 2]) (by simp [results, Tryd.results80, go_sem, s0, s1]) rfl ⟨by rw [HF.out] <;> rfl, (HB.out.setCell (p := ⟨w.heap.size + 1 + 1, 0, none⟩) (by simp; omega) _).setCell (p := ⟨w.heap.size + 1 + 1, 1, none⟩) (by simp; omega) _⟩
end Go.Proofs.YtmibpncmebhbjaaDoor
