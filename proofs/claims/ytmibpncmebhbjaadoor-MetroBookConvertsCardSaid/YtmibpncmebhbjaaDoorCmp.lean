/- Cmp of metro and of the reference. Condition: numbers are ints. -/
import Derived.Test.YtmibpncmebhbjaaDoorP6
namespace Go.Proofs.YtmibpncmebhbjaaDoor
open Go Go.RowKit Go.Shelf

def cmpI (N D M E : Int) : Int := if N * E < M * D then -1 else if M * D < N * E then 1 else 0
def cmpE (N D M E : Int) : Int := if isR N D && isR M E then 0 else 2
def cmpV (N D M E : Int) : Int := if isR N D && isR M E then cmpI N D M E else 0
theorem mul_in {N E : Int} (h1 : -1099511627776 ≤ N) (h2 : N ≤ 1099511627776) (h3 : 1 ≤ E) (h4 : E ≤ 1048576) : -1152921504606846976 ≤ N * E ∧ N * E ≤ 1152921504606846976 := by
  constructor
  · have a : -1099511627776 * E ≤ N * E := Int.mul_le_mul_of_nonneg_right h1 (by omega)
    omega
  · have a : N * E ≤ 1099511627776 * E := Int.mul_le_mul_of_nonneg_right h2 (by omega)
    omega

set_option maxRecDepth 100000 in
set_option maxHeartbeats 1000000 in
theorem cmp_any (N D M E : Int) (w : World) (hN : Bd N) (hD : Bd D) (hM : Bd M) (hE : Bd E) :
    Calls Tryd.prog 47 #[.agg #[.int .i64 N, .int .i64 D], .agg #[.int .i64 M, .int .i64 E]] w fun e w' => e = .returned (.tuple #[.int .i64 (cmpV N D M E), .int .i64 (cmpE N D M E)]) ∧ Below w.heap.size w w' := by
  have Y0 := (Cel.new w 23 #[.int .i64 N, .int .i64 D]).alloc (.cells #[.int .i64 M, .int .i64 E] 23)
  have Y1 := Cel.at (w.alloc (.cells #[.int .i64 N, .int .i64 D] 23)) (w.heap.size + 1) 23 #[.int .i64 M, .int .i64 E] (by simp)
  have hw0 : Below w.heap.size w ((w.alloc (.cells #[.int .i64 N, .int .i64 D] 23)).alloc (.cells #[.int .i64 M, .int .i64 E] 23)) := (below_alloc' _ _).alloc (by simp) _
  obtain ⟨W, hW⟩ : ∃ W, (w.alloc (.cells #[.int .i64 N, .int .i64 D] 23)).alloc (.cells #[.int .i64 M, .int .i64 E] 23) = W := ⟨_, rfl⟩
  rw [hW] at Y0 Y1 hw0
  have HK : Hid (∀ w', Below W.heap.size W w' → w'.cell? ⟨w.heap.size, 0, none⟩ = some (.int .i64 N) ∧ w'.cell? ⟨w.heap.size, 1, none⟩ = some (.int .i64 D) ∧ w'.cell? ⟨w.heap.size + 1, 0, none⟩ = some (.int .i64 M) ∧ w'.cell? ⟨w.heap.size + 1, 1, none⟩ = some (.int .i64 E)) := fun w' hb =>
    ⟨(Y0.below Y0.lt hb).cell 0 _ rfl, (Y0.below Y0.lt hb).cell 1 _ rfl, (Y1.below Y1.lt hb).cell 0 _ rfl, (Y1.below Y1.lt hb).cell 1 _ rfl⟩
  have HW := Lib.hid hw0
  obtain ⟨a0, a1, a2, a3⟩ := HK.out W (Below.refl _ _)
  have HA := Lib.hid (fun W => isRatio_any N D W hN.1 hN.2 hD.1 hD.2)
  have HB := Lib.hid (fun W => isRatio_any M E W hM.1 hM.2 hE.1 hE.2)
  clear Y0 Y1 hw0 hN hD hM hE
  go_enter Tryd.func47, Tryd.ntmps47
  by_cases h1 : isR N D = true
  · by_cases h2 : isR M E = true
    · obtain ⟨d1, d2, n1, n2⟩ := isR_bd h1
      obtain ⟨e1, e2, m1, m2⟩ := isR_bd h2
      obtain ⟨x1, x2⟩ := mul_in n1 n2 e1 e2
      obtain ⟨y1, y2⟩ := mul_in m1 m2 d1 d2
      have HE := Lib.hid (show cmpE N D M E = 0 by simp [cmpE, h1, h2])
      have HV0 := Lib.hid (show cmpV N D M E = cmpI N D M E by simp [cmpV, h1, h2])
      rw [h1] at HA
      rw [h2] at HB
      clear h1 h2
      by_cases c1 : N * E < M * D
      · have HV := Lib.hid (show cmpV N D M E = -1 by rw [HV0.out, cmpI, if_pos c1])
        have g1 : decide (N * E < M * D) = true := decide_eq_true c1
        go_wp2_with (first
          | (go_at_call_of 23 (Value.agg #[.int .i64 N, .int .i64 D]); refine (HA.out _).mono ?_; rintro e w1 ⟨rfl, hb1⟩; clear a0 a1 a2 a3; obtain ⟨a0, a1, a2, a3⟩ := HK.out _ hb1)
          | (go_at_call 23; refine (HB.out _).mono ?_; rintro e w2 ⟨rfl, hb'⟩; have hb2 := below_then hb1 hb'; clear hb' a0 a1 a2 a3; obtain ⟨a0, a1, a2, a3⟩ := HK.out _ hb2))
        go_quiet (fail)
        go_wp2
        go_ret2
        exact ⟨by rw [HV.out, HE.out] <;> rfl, below_then HW.out (below_drewN hb2 _)⟩
      · have g1 : decide (N * E < M * D) = false := decide_eq_false c1
        by_cases c2 : M * D < N * E
        · have HV := Lib.hid (show cmpV N D M E = 1 by rw [HV0.out, cmpI, if_neg c1, if_pos c2])
          have g2 : decide (M * D < N * E) = true := decide_eq_true c2
          go_wp2_with (first
            | (go_at_call_of 23 (Value.agg #[.int .i64 N, .int .i64 D]); refine (HA.out _).mono ?_; rintro e w1 ⟨rfl, hb1⟩; clear a0 a1 a2 a3; obtain ⟨a0, a1, a2, a3⟩ := HK.out _ hb1)
            | (go_at_call 23; refine (HB.out _).mono ?_; rintro e w2 ⟨rfl, hb'⟩; have hb2 := below_then hb1 hb'; clear hb' a0 a1 a2 a3; obtain ⟨a0, a1, a2, a3⟩ := HK.out _ hb2))
          go_quiet (fail)
          go_wp2
          go_ret2
          exact ⟨by rw [HV.out, HE.out] <;> rfl, below_then HW.out (below_drewN hb2 _)⟩
        · have HV := Lib.hid (show cmpV N D M E = 0 by rw [HV0.out, cmpI, if_neg c1, if_neg c2])
          have g2 : decide (M * D < N * E) = false := decide_eq_false c2
          go_wp2_with (first
            | (go_at_call_of 23 (Value.agg #[.int .i64 N, .int .i64 D]); refine (HA.out _).mono ?_; rintro e w1 ⟨rfl, hb1⟩; clear a0 a1 a2 a3; obtain ⟨a0, a1, a2, a3⟩ := HK.out _ hb1)
            | (go_at_call 23; refine (HB.out _).mono ?_; rintro e w2 ⟨rfl, hb'⟩; have hb2 := below_then hb1 hb'; clear hb' a0 a1 a2 a3; obtain ⟨a0, a1, a2, a3⟩ := HK.out _ hb2))
          go_quiet (fail)
          go_wp2
          go_ret2
          exact ⟨by rw [HV.out, HE.out] <;> rfl, below_then HW.out (below_drewN hb2 _)⟩
    · have h2' : isR M E = false := by simpa using h2
      have HE := Lib.hid (show cmpE N D M E = 2 by simp [cmpE, h2'])
      have HV := Lib.hid (show cmpV N D M E = 0 by simp [cmpV, h2'])
      rw [h1] at HA
      rw [h2'] at HB
      clear h1 h2 h2'
      go_wp2_with (first
        | (go_at_call_of 23 (Value.agg #[.int .i64 N, .int .i64 D]); refine (HA.out _).mono ?_; rintro e w1 ⟨rfl, hb1⟩; clear a0 a1 a2 a3; obtain ⟨a0, a1, a2, a3⟩ := HK.out _ hb1)
        | (go_at_call 23; refine (HB.out _).mono ?_; rintro e w2 ⟨rfl, hb'⟩; have hb2 := below_then hb1 hb'; clear hb' a0 a1 a2 a3; obtain ⟨a0, a1, a2, a3⟩ := HK.out _ hb2))
      go_ret2
      exact ⟨by rw [HV.out, HE.out] <;> rfl, below_then HW.out (hb2)⟩
  · have h1' : isR N D = false := by simpa using h1
    have HE := Lib.hid (show cmpE N D M E = 2 by simp [cmpE, h1'])
    have HV := Lib.hid (show cmpV N D M E = 0 by simp [cmpV, h1'])
    rw [h1'] at HA
    clear h1 h1'
    go_wp2_with (go_at_call_of 23 (Value.agg #[.int .i64 N, .int .i64 D]); refine (HA.out _).mono ?_; rintro e w1 ⟨rfl, hb1⟩; clear a0 a1 a2 a3; obtain ⟨a0, a1, a2, a3⟩ := HK.out _ hb1)
    go_ret2
    exact ⟨by rw [HV.out, HE.out] <;> rfl, below_then HW.out (hb1)⟩

set_option maxRecDepth 100000 in
set_option maxHeartbeats 1000000 in
theorem rcmp_any (N D M E : Int) (w : World) (hN : Bd N) (hD : Bd D) (hM : Bd M) (hE : Bd E) :
    Calls Tryd.prog 81 #[.agg #[.int .i64 N, .int .i64 D], .agg #[.int .i64 M, .int .i64 E]] w fun e w' => e = .returned (.tuple #[.int .i64 (cmpV N D M E), .int .i64 (cmpE N D M E)]) ∧ Below w.heap.size w w' := by
  have Y0 := (Cel.new w 23 #[.int .i64 N, .int .i64 D]).alloc (.cells #[.int .i64 M, .int .i64 E] 23)
  have Y1 := Cel.at (w.alloc (.cells #[.int .i64 N, .int .i64 D] 23)) (w.heap.size + 1) 23 #[.int .i64 M, .int .i64 E] (by simp)
  have hw0 : Below w.heap.size w ((w.alloc (.cells #[.int .i64 N, .int .i64 D] 23)).alloc (.cells #[.int .i64 M, .int .i64 E] 23)) := (below_alloc' _ _).alloc (by simp) _
  obtain ⟨W, hW⟩ : ∃ W, (w.alloc (.cells #[.int .i64 N, .int .i64 D] 23)).alloc (.cells #[.int .i64 M, .int .i64 E] 23) = W := ⟨_, rfl⟩
  rw [hW] at Y0 Y1 hw0
  have HK : Hid (∀ w', Below W.heap.size W w' → w'.cell? ⟨w.heap.size, 0, none⟩ = some (.int .i64 N) ∧ w'.cell? ⟨w.heap.size, 1, none⟩ = some (.int .i64 D) ∧ w'.cell? ⟨w.heap.size + 1, 0, none⟩ = some (.int .i64 M) ∧ w'.cell? ⟨w.heap.size + 1, 1, none⟩ = some (.int .i64 E)) := fun w' hb =>
    ⟨(Y0.below Y0.lt hb).cell 0 _ rfl, (Y0.below Y0.lt hb).cell 1 _ rfl, (Y1.below Y1.lt hb).cell 0 _ rfl, (Y1.below Y1.lt hb).cell 1 _ rfl⟩
  have HW := Lib.hid hw0
  obtain ⟨a0, a1, a2, a3⟩ := HK.out W (Below.refl _ _)
  have HA := Lib.hid (fun W => risRatio_any N D W hN.1 hN.2 hD.1 hD.2)
  have HB := Lib.hid (fun W => risRatio_any M E W hM.1 hM.2 hE.1 hE.2)
  clear Y0 Y1 hw0 hN hD hM hE
  go_enter Tryd.func81, Tryd.ntmps81
  by_cases h1 : isR N D = true
  · by_cases h2 : isR M E = true
    · obtain ⟨d1, d2, n1, n2⟩ := isR_bd h1
      obtain ⟨e1, e2, m1, m2⟩ := isR_bd h2
      obtain ⟨x1, x2⟩ := mul_in n1 n2 e1 e2
      obtain ⟨y1, y2⟩ := mul_in m1 m2 d1 d2
      have HE := Lib.hid (show cmpE N D M E = 0 by simp [cmpE, h1, h2])
      have HV0 := Lib.hid (show cmpV N D M E = cmpI N D M E by simp [cmpV, h1, h2])
      rw [h1] at HA
      rw [h2] at HB
      clear h1 h2
      by_cases c1 : N * E < M * D
      · have HV := Lib.hid (show cmpV N D M E = -1 by rw [HV0.out, cmpI, if_pos c1])
        have g1 : decide (N * E < M * D) = true := decide_eq_true c1
        go_wp2_with (first
          | (go_at_call_of 24 (Value.agg #[.int .i64 N, .int .i64 D]); refine (HA.out _).mono ?_; rintro e w1 ⟨rfl, hb1⟩; clear a0 a1 a2 a3; obtain ⟨a0, a1, a2, a3⟩ := HK.out _ hb1)
          | (go_at_call 24; refine (HB.out _).mono ?_; rintro e w2 ⟨rfl, hb'⟩; have hb2 := below_then hb1 hb'; clear hb' a0 a1 a2 a3; obtain ⟨a0, a1, a2, a3⟩ := HK.out _ hb2))
        go_quiet (fail)
        go_wp2
        go_ret2
        exact ⟨by rw [HV.out, HE.out] <;> rfl, below_then HW.out (below_drewN hb2 _)⟩
      · have g1 : decide (N * E < M * D) = false := decide_eq_false c1
        by_cases c2 : M * D < N * E
        · have HV := Lib.hid (show cmpV N D M E = 1 by rw [HV0.out, cmpI, if_neg c1, if_pos c2])
          have g2 : decide (M * D < N * E) = true := decide_eq_true c2
          go_wp2_with (first
            | (go_at_call_of 24 (Value.agg #[.int .i64 N, .int .i64 D]); refine (HA.out _).mono ?_; rintro e w1 ⟨rfl, hb1⟩; clear a0 a1 a2 a3; obtain ⟨a0, a1, a2, a3⟩ := HK.out _ hb1)
            | (go_at_call 24; refine (HB.out _).mono ?_; rintro e w2 ⟨rfl, hb'⟩; have hb2 := below_then hb1 hb'; clear hb' a0 a1 a2 a3; obtain ⟨a0, a1, a2, a3⟩ := HK.out _ hb2))
          go_quiet (fail)
          go_wp2
          go_ret2
          exact ⟨by rw [HV.out, HE.out] <;> rfl, below_then HW.out (below_drewN hb2 _)⟩
        · have HV := Lib.hid (show cmpV N D M E = 0 by rw [HV0.out, cmpI, if_neg c1, if_neg c2])
          have g2 : decide (M * D < N * E) = false := decide_eq_false c2
          go_wp2_with (first
            | (go_at_call_of 24 (Value.agg #[.int .i64 N, .int .i64 D]); refine (HA.out _).mono ?_; rintro e w1 ⟨rfl, hb1⟩; clear a0 a1 a2 a3; obtain ⟨a0, a1, a2, a3⟩ := HK.out _ hb1)
            | (go_at_call 24; refine (HB.out _).mono ?_; rintro e w2 ⟨rfl, hb'⟩; have hb2 := below_then hb1 hb'; clear hb' a0 a1 a2 a3; obtain ⟨a0, a1, a2, a3⟩ := HK.out _ hb2))
          go_quiet (fail)
          go_wp2
          go_ret2
          exact ⟨by rw [HV.out, HE.out] <;> rfl, below_then HW.out (below_drewN hb2 _)⟩
    · have h2' : isR M E = false := by simpa using h2
      have HE := Lib.hid (show cmpE N D M E = 2 by simp [cmpE, h2'])
      have HV := Lib.hid (show cmpV N D M E = 0 by simp [cmpV, h2'])
      rw [h1] at HA
      rw [h2'] at HB
      clear h1 h2 h2'
      go_wp2_with (first
        | (go_at_call_of 24 (Value.agg #[.int .i64 N, .int .i64 D]); refine (HA.out _).mono ?_; rintro e w1 ⟨rfl, hb1⟩; clear a0 a1 a2 a3; obtain ⟨a0, a1, a2, a3⟩ := HK.out _ hb1)
        | (go_at_call 24; refine (HB.out _).mono ?_; rintro e w2 ⟨rfl, hb'⟩; have hb2 := below_then hb1 hb'; clear hb' a0 a1 a2 a3; obtain ⟨a0, a1, a2, a3⟩ := HK.out _ hb2))
      go_ret2
      exact ⟨by rw [HV.out, HE.out] <;> rfl, below_then HW.out (hb2)⟩
  · have h1' : isR N D = false := by simpa using h1
    have HE := Lib.hid (show cmpE N D M E = 2 by simp [cmpE, h1'])
    have HV := Lib.hid (show cmpV N D M E = 0 by simp [cmpV, h1'])
    rw [h1'] at HA
    clear h1 h1'
    go_wp2_with (go_at_call_of 24 (Value.agg #[.int .i64 N, .int .i64 D]); refine (HA.out _).mono ?_; rintro e w1 ⟨rfl, hb1⟩; clear a0 a1 a2 a3; obtain ⟨a0, a1, a2, a3⟩ := HK.out _ hb1)
    go_ret2
    exact ⟨by rw [HV.out, HE.out] <;> rfl, below_then HW.out (hb1)⟩
end Go.Proofs.YtmibpncmebhbjaaDoor
