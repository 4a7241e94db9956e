/- The reference's Floor. -/
import Derived.Test.YtmibpncmebhbjaaDoorP6
namespace Go.Proofs.YtmibpncmebhbjaaDoor
open Go Go.RowKit Go.Shelf
attribute [local go_sem] rrV

set_option maxRecDepth 100000 in
set_option maxHeartbeats 1000000 in
theorem rfloor_any (N D : Int) (w : World) (hN : Bd N) (hD : Bd D) :
    Calls Tryd.prog 62 #[.agg #[.int .i64 N, .int .i64 D]] w fun e w' => e = .returned (floorV N D) ∧ Below w.heap.size w w' := by
  obtain ⟨W, hW⟩ : ∃ W, (w.alloc (.cells #[.int .i64 N, .int .i64 D] 23)).alloc (.cells #[.int .i64 0, .int .i64 0] 23) = W := ⟨_, rfl⟩
  have hwW : Below w.heap.size w W := by rw [← hW]; exact ((Below.refl _ _).alloc (Nat.le_refl _) _).alloc (by simp) _
  have q0 : W.heap[w.heap.size]? = some (.cells #[.int .i64 N, .int .i64 D] 23 (0, 0)) := by rw [← hW]; exact heap_alloc2_old _ _ _
  have q1 : W.heap[w.heap.size + 1]? = some (.cells #[.int .i64 0, .int .i64 0] 23 (0, 0)) := by rw [← hW]; exact heap_alloc2_new _ _ _
  have Q0 := Lib.hid q0
  have Q1 := Lib.hid q1
  obtain ⟨a0, a1, _, _⟩ := box2i q0
  clear q0 q1
  go_enter Tryd.func62, Tryd.ntmps62
  go_wp2_with fail
  have hc := risRatio_any N D W hN.1 hN.2 hD.1 hD.2
  by_cases h1 : isR N D = true
  · rw [h1] at hc
    go_fit hc
    rintro e w1 ⟨rfl, hb1⟩
    obtain ⟨b0, b1, _, _⟩ := box2i (blk_below Q0.out hb1)
    clear hc
    obtain ⟨g1, g2, g3, g4⟩ := isR_bd h1
    have HF := Lib.hid (floorV_yes h1)
    have bq : -1099511627776 ≤ N / D ∧ N / D ≤ 1099511627776 := by
      constructor
      · refine Int.le_ediv_of_mul_le (by omega) ?_
        have : -1099511627776 * D ≤ -1099511627776 * 1 := Int.mul_le_mul_of_nonpos_left (by decide) g1
        omega
      · refine Int.ediv_le_of_le_mul (by omega) ?_
        have : 1099511627776 * 1 ≤ 1099511627776 * D := Int.mul_le_mul_of_nonneg_left g1 (by decide)
        omega
    obtain ⟨bq1, bq2⟩ := bq
    have bm1 := Int.emod_nonneg N (show D ≠ 0 by omega)
    have bm2 := Int.emod_lt_of_pos N (show 0 < D by omega)
    have bm3 : N / D * D = N - N % D := by have := Int.mul_ediv_add_emod N D; rw [Int.mul_comm] at this; omega
    have bm4 : -2305843009213693952 ≤ N / D * D := by omega
    have bm5 : N / D * D ≤ 2305843009213693952 := by omega
    have HM := Lib.hid bm3
    have HRS := Lib.hid (show N - N / D * D = N % D by omega)
    clear bm3 h1
    obtain ⟨r0, r1, y0, y1⟩ := box2i (blk_below Q1.out hb1)
    have hbw := below_then hwW hb1
    by_cases hn : 0 ≤ N
    · have hn0 : decide (N < 0) = false := decide_eq_false (by omega)
      go_wp2_with fail
      have p2 : Cel w1 (w.heap.size + 1) 23 #[.int .i64 0, .int .i64 0] := blk_below Q1.out hb1
      have hpl := p2.lt
      have k5 := p2.set2 (.int .i64 (N - (N / D) * D)) (.int .i64 D)
      have s0 := k5.cell 0 (.int .i64 (N - (N / D) * D)) rfl
      have s1 := k5.cell 1 (.int .i64 D) rfl
      have u2 := b1
      clear k5 p2
      go_region
      all_goals
        go_wp2
        exact bodyPost_ret (v := .tuple #[.int .i64 (N / D), .agg #[.int .i64 (N - (N / D) * D), .int .i64 D], .int .i64 0]) (by simp [results, Tryd.results62, go_sem, s0, s1]) rfl ⟨by rw [HF.out, HRS.out] <;> rfl, (by repeat (first | exact hbw | refine Below.drew ?_ | refine below_drewN ?_ _ | refine Below.setCell ?_ (by simp) _))⟩
    · have hn0 : decide (N < 0) = true := decide_eq_true (by omega)
      rcases quo_neg (N := N) (by omega) g1 with ⟨t1, t2⟩ | ⟨t1, t2⟩
      · have e2 : N.tdiv D - 1 = N / D := by omega
        have c0 : (N.tdiv D * D != N) = true := by
          have := Int.mul_tdiv_add_tmod N D
          rw [Int.mul_comm] at this
          rw [bne_iff_ne]; omega
        have c3 : -1099511627777 ≤ N.tdiv D := by omega
        have c4 : N.tdiv D ≤ 1099511627777 := by omega
        have c5 : -2305843009213693952 ≤ N.tdiv D * D := by
          have := Int.mul_tdiv_add_tmod N D
          rw [Int.mul_comm] at this
          have := Int.lt_tmod_of_pos N (show 0 < D by omega)
          omega
        have c6 : N.tdiv D * D ≤ 2305843009213693952 := by
          have := Int.mul_tdiv_add_tmod N D
          rw [Int.mul_comm] at this
          have := Int.lt_tmod_of_pos N (show 0 < D by omega)
          omega
        have c7 : -2305843009213693952 ≤ (N.tdiv D - 1) * D := by rw [e2]; exact bm4
        have c8 : (N.tdiv D - 1) * D ≤ 2305843009213693952 := by rw [e2]; exact bm5
        have E2 := Lib.hid e2
        have HRS := Lib.hid (show N - (N.tdiv D - 1) * D = N % D by rw [e2]; exact HRS.out)
        have c9 : -1099511627776 ≤ N.tdiv D - 1 := by omega
        have c10 : N.tdiv D - 1 ≤ 1099511627776 := by omega
        clear e2 t2
        go_wp2_with fail
        have p2 : Cel w1 (w.heap.size + 1) 23 #[.int .i64 0, .int .i64 0] := blk_below Q1.out hb1
        have hpl := p2.lt
        have k5 := p2.set2 (.int .i64 (N - (N.tdiv D - 1) * D)) (.int .i64 D)
        have s0 := k5.cell 0 (.int .i64 (N - (N.tdiv D - 1) * D)) rfl
        have s1 := k5.cell 1 (.int .i64 D) rfl
        have u2 := b1
        clear k5 p2
        go_region
        all_goals
          go_wp2
          exact bodyPost_ret (v := .tuple #[.int .i64 (N.tdiv D - 1), .agg #[.int .i64 (N - (N.tdiv D - 1) * D), .int .i64 D], .int .i64 0]) (by simp [results, Tryd.results62, go_sem, s0, s1]) rfl ⟨by rw [HF.out, HRS.out, E2.out] <;> rfl, (by repeat (first | exact hbw | refine Below.drew ?_ | refine below_drewN ?_ _ | refine Below.setCell ?_ (by simp) _))⟩
      · have e2 : N.tdiv D = N / D := by omega
        have c0 : (N.tdiv D * D != N) = false := by
          have := Int.mul_tdiv_add_tmod N D
          rw [Int.mul_comm] at this
          rw [bne_eq_false_iff_eq]; omega
        have c3 : -1099511627776 ≤ N.tdiv D := by rw [e2]; exact bq1
        have c4 : N.tdiv D ≤ 1099511627776 := by rw [e2]; exact bq2
        have c5 : -2305843009213693952 ≤ N.tdiv D * D := by rw [e2]; exact bm4
        have c6 : N.tdiv D * D ≤ 2305843009213693952 := by rw [e2]; exact bm5
        have E2 := Lib.hid e2
        have HRS := Lib.hid (show N - N.tdiv D * D = N % D by rw [e2]; exact HRS.out)
        clear e2 t2
        go_wp2_with fail
        have p2 : Cel w1 (w.heap.size + 1) 23 #[.int .i64 0, .int .i64 0] := blk_below Q1.out hb1
        have hpl := p2.lt
        have k5 := p2.set2 (.int .i64 (N - (N.tdiv D) * D)) (.int .i64 D)
        have s0 := k5.cell 0 (.int .i64 (N - (N.tdiv D) * D)) rfl
        have s1 := k5.cell 1 (.int .i64 D) rfl
        have u2 := b1
        clear k5 p2
        go_region
        all_goals
          go_wp2
          exact bodyPost_ret (v := .tuple #[.int .i64 (N.tdiv D), .agg #[.int .i64 (N - (N.tdiv D) * D), .int .i64 D], .int .i64 0]) (by simp [results, Tryd.results62, go_sem, s0, s1]) rfl ⟨by rw [HF.out, HRS.out, E2.out] <;> rfl, (by repeat (first | exact hbw | refine Below.drew ?_ | refine below_drewN ?_ _ | refine Below.setCell ?_ (by simp) _))⟩
  · have h1 : isR N D = false := by simpa using h1
    rw [h1] at hc
    go_fit hc
    rintro e w1 ⟨rfl, hb1⟩
    obtain ⟨r0, r1, y0, y1⟩ := box2i (blk_below Q1.out hb1)
    have HF := Lib.hid (floorV_no h1)
    clear hc
    go_wp2
    exact bodyPost_ret (v := .tuple #[.int .i64 0, .agg #[.int .i64 0, .int .i64 0], .int .i64 2]) (by simp [results, Tryd.results62, go_sem, r0, r1]) rfl ⟨by rw [HF.out] <;> rfl, ((below_then hwW hb1).setCell (p := ⟨w.heap.size + 1, 0, none⟩) (by simp) _).setCell (p := ⟨w.heap.size + 1, 1, none⟩) (by simp) _⟩
end Go.Proofs.YtmibpncmebhbjaaDoor
