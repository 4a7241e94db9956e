/- The walks of IsRatio, Ratio and what they call, of metro and of its reference. Condition: numbers are ints; metro's variable zero is 0/1. The walks of Ratio of metro and of its reference. Condition: numbers are ints; metro's variable zero is 0/1. The walks of made and Ratio of the reference. Condition: numbers are ints. The walks of metro's Add and Sub, with the closures that calculate. Condition: numbers are ints; metro's variable zero is 0/1. The walk of metro's Floor. Condition: numbers are ints; metro's variable zero is 0/1. -/
import Derived.Test.YtmibpncmebhbjaaDoorP1
namespace Go.Proofs.YtmibpncmebhbjaaDoor
section
open Go Go.RowKit

/-- Is N/D a ratio? -/
def isR (N D : Int) : Bool := decide (1 ≤ D) && (decide (D ≤ 1048576) && (decide (-1099511627776 ≤ N) && (decide (N ≤ 1099511627776) && decide (Nat.gcd N.natAbs D.natAbs = 1))))
theorem isR_iff {N D : Int} : isR N D = true ↔ 1 ≤ D ∧ D ≤ 1048576 ∧ -1099511627776 ≤ N ∧ N ≤ 1099511627776 ∧ Nat.gcd N.natAbs D.natAbs = 1 := by
  simp [isR]

/-- A ratio as a value. -/
def rv (N D : Int) : Value := .agg #[.int .i64 N, .int .i64 D]

theorem beq_gcd (a b : Nat) : (((Nat.gcd a b : Nat) : Int) == 1) = decide (Nat.gcd a b = 1) := by
  rw [Bool.eq_iff_iff]; simp; omega

theorem beq_gcd' (a b : Nat) : (((Nat.gcd a b : Nat) : Int) == 1) = decide (Nat.gcd b a = 1) := by
  rw [beq_gcd, Bool.eq_iff_iff, decide_eq_true_eq, decide_eq_true_eq, Nat.gcd_comm]

set_option maxRecDepth 100000 in
set_option maxHeartbeats 1000000 in
theorem isRatio_any (N D : Int) (w : World) (hN1 : -9223372036854775808 ≤ N) (hN2 : N ≤ 9223372036854775807) (hD1 : -9223372036854775808 ≤ D) (hD2 : D ≤ 9223372036854775807) :
    Calls Tryd.prog 23 #[.agg #[.int .i64 N, .int .i64 D]] w fun e w' => e = .returned (.bool (isR N D)) ∧ Below w.heap.size w w' := by
  by_cases h1 : 1 ≤ D
  · have d1 : decide (1 ≤ D) = true := by simpa using h1
    by_cases h2 : D ≤ 1048576
    · have d2 : decide (D ≤ 1048576) = true := by simpa using h2
      by_cases h3 : -1099511627776 ≤ N
      · have d3 : decide (-1099511627776 ≤ N) = true := by simpa using h3
        by_cases h4 : N ≤ 1099511627776
        · have d4 : decide (N ≤ 1099511627776) = true := by simpa using h4
          have HR := Lib.hid (show isR N D = decide (Nat.gcd N.natAbs D.natAbs = 1) by unfold isR; rw [d1, d2, d3, d4]; rfl)
          have bN : N.natAbs < 18446744073709551616 := by omega
          have bD : D.natAbs < 18446744073709551616 := by omega
          go_enter Tryd.func23, Tryd.ntmps23
          go_wp2_with fail
          go_quiet ((first | (go_at_call_of 86 (Value.int .i64 N); exact quiet_left (size_any N _ hN1 hN2)) | (go_at_call_of 86 (Value.int .i64 D); exact quiet_left (size_any D _ hD1 hD2)) | (go_at_call 90; exact Calls.quiet_of (common_any _ _ _ bN bD))))
          go_wp2
          go_ret
          exact ⟨ret_bool (by rw [HR.out]; exact beq_gcd' _ _), below_drewN (below_alloc' _ _) _⟩
        · have d4 : decide (N ≤ 1099511627776) = false := by simpa using h4
          have HR := Lib.hid (show isR N D = false by unfold isR; rw [d1, d2, d3, d4]; rfl)
          go_enter Tryd.func23, Tryd.ntmps23
          go_wp2_with fail
          go_quiet (fail)
          go_wp2
          go_ret
          exact ⟨ret_bool HR.out.symm, below_drewN (below_alloc' _ _) _⟩
      · have d3 : decide (-1099511627776 ≤ N) = false := by simpa using h3
        have HR := Lib.hid (show isR N D = false by unfold isR; rw [d1, d2, d3]; rfl)
        go_enter Tryd.func23, Tryd.ntmps23
        go_wp2_with fail
        go_quiet (fail)
        go_wp2
        go_ret
        exact ⟨ret_bool HR.out.symm, below_drewN (below_alloc' _ _) _⟩
    · have d2 : decide (D ≤ 1048576) = false := by simpa using h2
      have HR := Lib.hid (show isR N D = false by unfold isR; rw [d1, d2]; rfl)
      go_enter Tryd.func23, Tryd.ntmps23
      go_wp2_with fail
      go_quiet (fail)
      go_wp2
      go_ret
      exact ⟨ret_bool HR.out.symm, below_drewN (below_alloc' _ _) _⟩
  · have d1 : decide (1 ≤ D) = false := by simpa using h1
    have HR := Lib.hid (show isR N D = false by unfold isR; rw [d1]; rfl)
    go_enter Tryd.func23, Tryd.ntmps23
    go_wp2_with fail
    go_quiet (fail)
    go_wp2
    go_ret
    exact ⟨ret_bool HR.out.symm, below_drewN (below_alloc' _ _) _⟩

set_option maxRecDepth 100000 in
set_option maxHeartbeats 1000000 in
theorem risRatio_any (N D : Int) (w : World) (hN1 : -9223372036854775808 ≤ N) (hN2 : N ≤ 9223372036854775807) (hD1 : -9223372036854775808 ≤ D) (hD2 : D ≤ 9223372036854775807) :
    Calls Tryd.prog 24 #[.agg #[.int .i64 N, .int .i64 D]] w fun e w' => e = .returned (.bool (isR N D)) ∧ Below w.heap.size w w' := by
  by_cases h1 : 1 ≤ D
  · have d1 : decide (1 ≤ D) = true := by simpa using h1
    by_cases h2 : D ≤ 1048576
    · have d2 : decide (D ≤ 1048576) = true := by simpa using h2
      by_cases h3 : -1099511627776 ≤ N
      · have d3 : decide (-1099511627776 ≤ N) = true := by simpa using h3
        by_cases h4 : N ≤ 1099511627776
        · have d4 : decide (N ≤ 1099511627776) = true := by simpa using h4
          have HR := Lib.hid (show isR N D = decide (Nat.gcd N.natAbs D.natAbs = 1) by unfold isR; rw [d1, d2, d3, d4]; rfl)
          have bN : N.natAbs < 18446744073709551616 := by omega
          have bD : D.natAbs < 18446744073709551616 := by omega
          go_enter Tryd.func24, Tryd.ntmps24
          go_wp2_with fail
          go_quiet ((first | (go_at_call_of 89 (Value.int .i64 N); exact quiet_left (rsize_any N _ hN1 hN2)) | (go_at_call_of 89 (Value.int .i64 D); exact quiet_left (rsize_any D _ hD1 hD2)) | (go_at_call 91; exact Calls.quiet_of (gcd_any _ _ _ bN bD))))
          go_wp2
          go_ret
          exact ⟨ret_bool (by rw [HR.out]; exact beq_gcd _ _), below_drewN (below_alloc' _ _) _⟩
        · have d4 : decide (N ≤ 1099511627776) = false := by simpa using h4
          have HR := Lib.hid (show isR N D = false by unfold isR; rw [d1, d2, d3, d4]; rfl)
          go_enter Tryd.func24, Tryd.ntmps24
          go_wp2_with fail
          go_quiet (fail)
          go_wp2
          go_ret
          exact ⟨ret_bool HR.out.symm, below_drewN (below_alloc' _ _) _⟩
      · have d3 : decide (-1099511627776 ≤ N) = false := by simpa using h3
        have HR := Lib.hid (show isR N D = false by unfold isR; rw [d1, d2, d3]; rfl)
        go_enter Tryd.func24, Tryd.ntmps24
        go_wp2_with fail
        go_quiet (fail)
        go_wp2
        go_ret
        exact ⟨ret_bool HR.out.symm, below_drewN (below_alloc' _ _) _⟩
    · have d2 : decide (D ≤ 1048576) = false := by simpa using h2
      have HR := Lib.hid (show isR N D = false by unfold isR; rw [d1, d2]; rfl)
      go_enter Tryd.func24, Tryd.ntmps24
      go_wp2_with fail
      go_quiet (fail)
      go_wp2
      go_ret
      exact ⟨ret_bool HR.out.symm, below_drewN (below_alloc' _ _) _⟩
  · have d1 : decide (1 ≤ D) = false := by simpa using h1
    have HR := Lib.hid (show isR N D = false by unfold isR; rw [d1]; rfl)
    go_enter Tryd.func24, Tryd.ntmps24
    go_wp2_with fail
    go_quiet (fail)
    go_wp2
    go_ret
    exact ⟨ret_bool HR.out.symm, below_drewN (below_alloc' _ _) _⟩

/-- A ratio, and an error. -/
structure RR where
  n : Int
  d : Int
  e : Int
/-- As a function returns it. -/
def rrV (r : RR) : Value := .tuple #[.agg #[.int .i64 r.n, .int .i64 r.d], .int .i64 r.e]
/-- The ratio of a number; ErrBig: it is too big. -/
def fit (q : Rat) : RR := if q.num.natAbs ≤ 1099511627776 ∧ q.den ≤ 1048576 then ⟨q.num, q.den, 0⟩ else ⟨0, 0, 6⟩
theorem fit_yes {q : Rat} (h1 : q.num.natAbs ≤ 1099511627776) (h2 : q.den ≤ 1048576) : fit q = ⟨q.num, q.den, 0⟩ := if_pos ⟨h1, h2⟩
theorem fit_no {q : Rat} (h : ¬ (q.num.natAbs ≤ 1099511627776 ∧ q.den ≤ 1048576)) : fit q = ⟨0, 0, 6⟩ := if_neg h
/-- With a sign. -/
def sgn (neg : Bool) (q : Rat) : Rat := if neg then -q else q

theorem Red.fit_yes {X Y : List Nat} {q : Rat} (h : Red X Y q) (neg : Bool) (h1 : prodN X ≤ 1099511627776) (h2 : prodN Y ≤ 1048576) :
    fit (sgn neg q) = ⟨if neg then -(prodN X : Int) else (prodN X : Int), prodN Y, 0⟩ := by
  have hn := h.num
  have hd := h.den
  cases neg
  · simp only [sgn, Bool.false_eq_true, if_false]
    rw [Go.Proofs.YtmibpncmebhbjaaDoor.fit_yes (by omega) (by omega), hn, hd]
  · simp only [sgn, if_true]
    rw [Go.Proofs.YtmibpncmebhbjaaDoor.fit_yes (by rw [Rat.neg_num]; omega) (by rw [Rat.neg_den]; omega), Rat.neg_num, Rat.neg_den, hn, hd]
theorem Red.fit_no {X Y : List Nat} {q : Rat} (h : Red X Y q) (neg : Bool) (hh : ¬ (prodN X ≤ 1099511627776 ∧ prodN Y ≤ 1048576)) : fit (sgn neg q) = ⟨0, 0, 6⟩ := by
  have hn := h.num
  have hd := h.den
  cases neg
  · simp only [sgn, Bool.false_eq_true, if_false]
    exact Go.Proofs.YtmibpncmebhbjaaDoor.fit_no (by omega)
  · simp only [sgn, if_true]
    exact Go.Proofs.YtmibpncmebhbjaaDoor.fit_no (by rw [Rat.neg_num, Rat.neg_den]; omega)

theorem within_yes (v : Value) (l : List Nat) (most : Nat) (w : World) (hv : Sl w 1 v (u64s l)) (ho : Ones l) (hm0 : 1 ≤ most) (hm : most < 18446744073709551616) (h : prodN l ≤ most) :
    Calls Tryd.prog 122 #[v, .int .u64 most] w fun e w' => e = .returned (.tuple #[.int .u64 (prodN l : Int), .bool true]) ∧ ∃ n, w' = w.drewN n :=
  (within_any v l most w hv ho hm0 hm).mono fun _ _ ⟨hp, hn⟩ => ⟨hp.elim (·.2) (fun h' => absurd h h'.1), hn⟩
theorem within_no (v : Value) (l : List Nat) (most : Nat) (w : World) (hv : Sl w 1 v (u64s l)) (ho : Ones l) (hm0 : 1 ≤ most) (hm : most < 18446744073709551616) (h : ¬ prodN l ≤ most) :
    Calls Tryd.prog 122 #[v, .int .u64 most] w fun e w' => e = .returned (.tuple #[.int .u64 0, .bool false]) ∧ ∃ n, w' = w.drewN n :=
  (within_any v l most w hv ho hm0 hm).mono fun _ _ ⟨hp, hn⟩ => ⟨hp.elim (fun h' => absurd h'.1 h) (·.2), hn⟩

set_option maxRecDepth 100000 in
set_option maxHeartbeats 1000000 in
theorem pratio_any (v : Value) (U D : List Nat) (neg : Bool) (w : World) (hv : Pr w v U D) (hU : Ones U) (hD : Ones D) (lU : U.length ≤ 17592186044415) (lD : D.length ≤ 17592186044415) :
    Calls Tryd.prog 87 #[v, .bool neg] w fun e w' => e = .returned (rrV (fit (sgn neg (val U D)))) ∧ Below w.heap.size w w' := by
  obtain ⟨A, n, c, B, m, d, rfl, hs1, hs2⟩ := hv.shape
  have hv' : Pr ((w.alloc (.cells #[.slice A n c, .slice B m d] 121)).alloc (.cells #[.int .i64 0, .int .i64 0] 23)) (.agg #[.slice A n c, .slice B m d]) U D := ⟨_, _, rfl, (hs1.alloc _).alloc _, (hs2.alloc _).alloc _⟩
  obtain ⟨W, hW⟩ : ∃ W, (w.alloc (.cells #[.slice A n c, .slice B m d] 121)).alloc (.cells #[.int .i64 0, .int .i64 0] 23) = W := ⟨_, rfl⟩
  have hwW : Below w.heap.size w W := by rw [← hW]; exact ((Below.refl _ _).alloc (Nat.le_refl _) _).alloc (by simp) _
  have b0 : W.heap[w.heap.size]? = some (.cells #[.slice A n c, .slice B m d] 121 (0, 0)) := by
    rw [← hW]; exact heap_alloc2_old _ _ _
  have b1 : W.heap[w.heap.size + 1]? = some (.cells #[.int .i64 0, .int .i64 0] 23 (0, 0)) := by
    rw [← hW]; exact heap_alloc2_new _ _ _
  rw [hW] at hv'
  have HB0 := Lib.hid b0
  have HB1 := Lib.hid b1
  have hsz := lt_of_block b1
  have e0 := cell_of_row W _ 0 _ _ _ b0
  have e1 := cell_of_row W _ 1 _ _ _ b0
  simp at e0 e1
  clear b0 b1 hv
  go_enter Tryd.func87, Tryd.ntmps87
  go_wp2_with fail
  refine (reduced_any _ U D _ hv' hU hD lU lD).mono ?_
  rintro e w1 ⟨r, X, Y, rfl, hb1, hpr, hred, hlx, hly⟩
  obtain ⟨A1, n1, c1, B1, m1, d1, rfl, hx, hy⟩ := hpr.shape
  have p0 := (hb1.block _ (lt_of_block HB0.out)).trans HB0.out
  have p1 := (hb1.block _ (lt_of_block HB1.out)).trans HB1.out
  have c0 := cell_of_row w1 _ 0 _ _ _ p0
  have c1' := cell_of_row w1 _ 1 _ _ _ p0
  have z0 := frozen_of_row w1 _ 0 _ _ p0
  have z1 := frozen_of_row w1 _ 1 _ _ p0
  have r0 := cell_of_row w1 _ 0 _ _ _ p1
  have r1 := cell_of_row w1 _ 1 _ _ _ p1
  have y0 := frozen_of_row w1 _ 0 _ _ p1
  have y1 := frozen_of_row w1 _ 1 _ _ p1
  simp at c0 c1' r0 r1
  by_cases hX : prodN X ≤ 1099511627776
  · by_cases hY : prodN Y ≤ 1048576
    · have HF := Lib.hid (hred.fit_yes neg hX hY)
      cases neg
      · go_wp2_with (first | (go_at_call_of 122 (Value.slice A1 n1 c1); refine (within_yes _ X 1099511627776 _ (hx.box_ c0 c1' _ _) hred.onesU (by decide) (by decide) hX).mono ?_; rintro e w2 ⟨rfl, k2, rfl⟩) | (go_at_call_of 122 (Value.slice B1 m1 d1); refine (within_yes _ Y 1048576 _ ((hy.box_ c0 c1' _ _).drewN _) hred.onesD (by decide) (by decide) hY).mono ?_; rintro e w3 ⟨rfl, k3, rfl⟩))
        refine bodyPost_ret (v := .tuple #[.agg #[.int .i64 (prodN X : Int), .int .i64 (prodN Y : Int)], .int .i64 0]) (by simp [results, Tryd.results87, go_sem, r0, r1]) rfl ⟨by rw [HF.out]; rfl, ?_⟩
        exact ((below_drewN (((below_then hwW hb1).setCell (p := ⟨w.heap.size, 0, none⟩) (Nat.le_refl _) _).setCell (p := ⟨w.heap.size, 1, none⟩) (Nat.le_refl _) _) _).setCell (p := ⟨w.heap.size + 1, 0, none⟩) (by simp) _).setCell (p := ⟨w.heap.size + 1, 1, none⟩) (by simp) _
      · go_wp2_with (first | (go_at_call_of 122 (Value.slice A1 n1 c1); refine (within_yes _ X 1099511627776 _ (hx.box_ c0 c1' _ _) hred.onesU (by decide) (by decide) hX).mono ?_; rintro e w2 ⟨rfl, k2, rfl⟩) | (go_at_call_of 122 (Value.slice B1 m1 d1); refine (within_yes _ Y 1048576 _ ((hy.box_ c0 c1' _ _).drewN _) hred.onesD (by decide) (by decide) hY).mono ?_; rintro e w3 ⟨rfl, k3, rfl⟩))
        refine bodyPost_ret (v := .tuple #[.agg #[.int .i64 (-(prodN X : Int)), .int .i64 (prodN Y : Int)], .int .i64 0]) (by simp [results, Tryd.results87, go_sem, r0, r1]) rfl ⟨by rw [HF.out]; rfl, ?_⟩
        exact ((below_drewN (((below_then hwW hb1).setCell (p := ⟨w.heap.size, 0, none⟩) (Nat.le_refl _) _).setCell (p := ⟨w.heap.size, 1, none⟩) (Nat.le_refl _) _) _).setCell (p := ⟨w.heap.size + 1, 0, none⟩) (by simp) _).setCell (p := ⟨w.heap.size + 1, 1, none⟩) (by simp) _
    · have HF := Lib.hid (hred.fit_no neg (fun h => hY h.2))
      go_wp2_with (first | (go_at_call_of 122 (Value.slice A1 n1 c1); refine (within_yes _ X 1099511627776 _ (hx.box_ c0 c1' _ _) hred.onesU (by decide) (by decide) hX).mono ?_; rintro e w2 ⟨rfl, k2, rfl⟩) | (go_at_call_of 122 (Value.slice B1 m1 d1); refine (within_no _ Y 1048576 _ ((hy.box_ c0 c1' _ _).drewN _) hred.onesD (by decide) (by decide) hY).mono ?_; rintro e w3 ⟨rfl, k3, rfl⟩))
      refine bodyPost_ret (v := .tuple #[.agg #[.int .i64 0, .int .i64 0], .int .i64 6]) (by simp [results, Tryd.results87, go_sem, r0, r1]) rfl ⟨by rw [HF.out]; rfl, ?_⟩
      exact ((below_drewN (((below_then hwW hb1).setCell (p := ⟨w.heap.size, 0, none⟩) (Nat.le_refl _) _).setCell (p := ⟨w.heap.size, 1, none⟩) (Nat.le_refl _) _) _).setCell (p := ⟨w.heap.size + 1, 0, none⟩) (by simp) _).setCell (p := ⟨w.heap.size + 1, 1, none⟩) (by simp) _
  · have HF := Lib.hid (hred.fit_no neg (fun h => hX h.1))
    by_cases hY : prodN Y ≤ 1048576
    · go_wp2_with (first | (go_at_call_of 122 (Value.slice A1 n1 c1); refine (within_no _ X 1099511627776 _ (hx.box_ c0 c1' _ _) hred.onesU (by decide) (by decide) hX).mono ?_; rintro e w2 ⟨rfl, k2, rfl⟩) | (go_at_call_of 122 (Value.slice B1 m1 d1); refine (within_yes _ Y 1048576 _ ((hy.box_ c0 c1' _ _).drewN _) hred.onesD (by decide) (by decide) hY).mono ?_; rintro e w3 ⟨rfl, k3, rfl⟩))
      refine bodyPost_ret (v := .tuple #[.agg #[.int .i64 0, .int .i64 0], .int .i64 6]) (by simp [results, Tryd.results87, go_sem, r0, r1]) rfl ⟨by rw [HF.out]; rfl, ?_⟩
      exact ((below_drewN (((below_then hwW hb1).setCell (p := ⟨w.heap.size, 0, none⟩) (Nat.le_refl _) _).setCell (p := ⟨w.heap.size, 1, none⟩) (Nat.le_refl _) _) _).setCell (p := ⟨w.heap.size + 1, 0, none⟩) (by simp) _).setCell (p := ⟨w.heap.size + 1, 1, none⟩) (by simp) _
    · go_wp2_with (first | (go_at_call_of 122 (Value.slice A1 n1 c1); refine (within_no _ X 1099511627776 _ (hx.box_ c0 c1' _ _) hred.onesU (by decide) (by decide) hX).mono ?_; rintro e w2 ⟨rfl, k2, rfl⟩) | (go_at_call_of 122 (Value.slice B1 m1 d1); refine (within_no _ Y 1048576 _ ((hy.box_ c0 c1' _ _).drewN _) hred.onesD (by decide) (by decide) hY).mono ?_; rintro e w3 ⟨rfl, k3, rfl⟩))
      refine bodyPost_ret (v := .tuple #[.agg #[.int .i64 0, .int .i64 0], .int .i64 6]) (by simp [results, Tryd.results87, go_sem, r0, r1]) rfl ⟨by rw [HF.out]; rfl, ?_⟩
      exact ((below_drewN (((below_then hwW hb1).setCell (p := ⟨w.heap.size, 0, none⟩) (Nat.le_refl _) _).setCell (p := ⟨w.heap.size, 1, none⟩) (Nat.le_refl _) _) _).setCell (p := ⟨w.heap.size + 1, 0, none⟩) (by simp) _).setCell (p := ⟨w.heap.size + 1, 1, none⟩) (by simp) _
end

section
open Go Go.RowKit

/-- metro's variable zero reads 0/1. -/
def Zw (w : World) : Prop := w.cell? ⟨0, 0, none⟩ = some (.int .i64 0) ∧ w.cell? ⟨0, 1, none⟩ = some (.int .i64 1)
theorem Zw.below {w w' : World} (h : Zw w) (hb : Below w.heap.size w w') : Zw w' := ⟨below_cell hb h.1, below_cell hb h.2⟩

/-- The ratio of n divided by d. -/
def ratioF (n d : Int) : RR := if d = 0 then ⟨0, 0, 9⟩ else fit ((n : Rat) / (d : Rat))

theorem castI (n : Int) : ((n.natAbs : Nat) : Rat) = if n < 0 then -(n : Rat) else (n : Rat) := by
  rcases Int.natAbs_eq n with h | h
  · rw [if_neg (by omega)]
    have : ((n.natAbs : Int) : Rat) = ((n : Int) : Rat) := by rw [← h]
    exact_mod_cast this
  · by_cases h0 : n < 0
    · rw [if_pos h0]
      have : ((n.natAbs : Int) : Rat) = ((-n : Int) : Rat) := by congr 1; omega
      exact_mod_cast this
    · have : n = 0 := by omega
      subst this
      simp
theorem sgn_ratio (n d : Int) (hd : d ≠ 0) : sgn (!(decide (n < 0) == decide (d < 0))) (val [n.natAbs] [d.natAbs]) = (n : Rat) / (d : Rat) := by
  have hd' : (d : Rat) ≠ 0 := by
    intro h
    exact hd (by exact_mod_cast h)
  have e : val [n.natAbs] [d.natAbs] = ((n.natAbs : Nat) : Rat) / ((d.natAbs : Nat) : Rat) := by simp [val, prodN]
  rw [e, castI, castI]
  by_cases h1 : n < 0 <;> by_cases h2 : d < 0 <;> simp [h1, h2, sgn] <;> grind
theorem fit_zero : fit 0 = ⟨0, 1, 0⟩ := by
  rw [fit_yes (by simp) (by simp)]
  rfl

attribute [local go_sem] rrV
set_option maxRecDepth 100000 in
set_option maxHeartbeats 1000000 in
theorem ratio_any (n d : Int) (w : World) (hz : Zw w) (h1 : -9223372036854775808 ≤ n) (h2 : n ≤ 9223372036854775807) (h3 : -9223372036854775808 ≤ d) (h4 : d ≤ 9223372036854775807) :
    Calls Tryd.prog 21 #[.int .i64 n, .int .i64 d] w fun e w' => e = .returned (rrV (ratioF n d)) ∧ Below w.heap.size w w' := by
  by_cases hd : d = 0
  · subst hd
    have HF := Lib.hid (show ratioF n 0 = ⟨0, 0, 9⟩ from if_pos rfl)
    go_enter Tryd.func21, Tryd.ntmps21
    go_wp2
    exact bodyPost_ret (v := .tuple #[.agg #[.int .i64 0, .int .i64 0], .int .i64 9]) (by simp [results, Tryd.results21, go_sem]) rfl ⟨by rw [HF.out]; rfl, below_alloc' _ _⟩
  · have bd : (d == 0) = false := by simpa using hd
    by_cases hn : n = 0
    · subst hn
      have HF := Lib.hid (show ratioF 0 d = ⟨0, 1, 0⟩ by
        unfold ratioF
        rw [if_neg hd]
        have : ((0 : Int) : Rat) / (d : Rat) = 0 := by simp [Rat.div_def]
        rw [this, fit_zero])
      clear hd
      obtain ⟨hz0, hz1⟩ := hz
      have l0 := block_lt_of_cell hz0
      simp at l0
      go_enter Tryd.func21, Tryd.ntmps21
      go_wp2
      exact bodyPost_ret (v := .tuple #[.agg #[.int .i64 0, .int .i64 1], .int .i64 0]) (by simp [results, Tryd.results21, go_sem]) rfl ⟨by rw [HF.out]; rfl, below_alloc' _ _⟩
    · have bn : (n == 0) = false := by simpa using hn
      have HF := Lib.hid (show ratioF n d = fit ((n : Rat) / (d : Rat)) from if_neg hd)
      have HS := Lib.hid (sgn_ratio n d hd)
      have on : Ones [n.natAbs] := Ones.cons (by omega) (by omega) Ones.nil
      have od : Ones [d.natAbs] := Ones.cons (by omega) (by omega) Ones.nil
      clear hd hn
      go_enter Tryd.func21, Tryd.ntmps21
      go_wp2_with (first | (go_at_call_of 86 (Value.int .i64 n); refine (size_any n _ h1 h2).mono ?_; rintro e w1 ⟨rfl, rfl⟩) | (go_at_call_of 86 (Value.int .i64 d); refine (size_any d _ h3 h4).mono ?_; rintro e w1 ⟨rfl, rfl⟩))
      have hP : Pr (((w.alloc (.cells #[.int .i64 0, .int .i64 0] 23)).alloc (.cells #[.int .u64 (n.natAbs : Int)] 117)).alloc (.cells #[.int .u64 (d.natAbs : Int)] 117)) (.agg #[.slice (some ⟨w.heap.size + 1, 0, none⟩) 1 1, .slice (some ⟨w.heap.size + 1 + 1, 0, none⟩) 1 1]) [n.natAbs] [d.natAbs] := by
        have a1 := (Sl.new (s := 1) (w.alloc (.cells #[.int .i64 0, .int .i64 0] 23)) 117 1 1 #[.int .u64 (n.natAbs : Int)] rfl (by omega) (by omega)).alloc (.cells #[.int .u64 (d.natAbs : Int)] 117)
        have a2 := Sl.new (s := 1) ((w.alloc (.cells #[.int .i64 0, .int .i64 0] 23)).alloc (.cells #[.int .u64 (n.natAbs : Int)] 117)) 117 1 1 #[.int .u64 (d.natAbs : Int)] rfl (by omega) (by omega)
        rw [World.size_alloc] at a1 a2
        rw [World.size_alloc] at a2
        exact ⟨_, _, rfl, a1, a2⟩
      have hc := pratio_any _ [n.natAbs] [d.natAbs] (!(decide (n < 0) == decide (d < 0))) _ hP on od (by simp) (by simp)
      go_fit hc
      rintro e w1 ⟨rfl, hb1⟩
      rw [HS.out]
      have b0 : w1.heap[w.heap.size]? = some (.cells #[.int .i64 0, .int .i64 0] 23 (0, 0)) := by
        rw [hb1.block _ (by simp; omega), Below.heap_alloc _ _ _ (by simp; omega)]
        exact heap_alloc2_old _ _ _
      have r0 := cell_of_row w1 _ 0 _ _ _ b0
      have r1 := cell_of_row w1 _ 1 _ _ _ b0
      have y0 := frozen_of_row w1 _ 0 _ _ b0
      have y1 := frozen_of_row w1 _ 1 _ _ b0
      simp at r0 r1
      generalize fit ((n : Rat) / (d : Rat)) = r at *
      go_wp2
      exact bodyPost_ret (v := .tuple #[.agg #[.int .i64 r.n, .int .i64 r.d], .int .i64 r.e]) (by simp [results, Tryd.results21, go_sem, r0, r1]) rfl ⟨by rw [HF.out]; rfl, ((((((Below.refl w.heap.size w).alloc (Nat.le_refl _) _).alloc (by simp) _).alloc (by simp; omega) _).trans (hb1.mono (by simp; omega))).setCell (p := ⟨w.heap.size, 0, none⟩) (by simp) _).setCell (p := ⟨w.heap.size, 1, none⟩) (by simp) _⟩
end

section
open Go Go.RowKit
attribute [local go_sem] rrV

theorem lowest (n d : Nat) (hd : 1 ≤ d) : ((n : Rat) / (d : Rat)).num = ((n / Nat.gcd n d : Nat) : Int) ∧ ((n : Rat) / (d : Rat)).den = d / Nat.gcd n d := by
  have hg : 0 < Nat.gcd n d := Nat.gcd_pos_of_pos_right _ hd
  have h1 : n = n / Nat.gcd n d * Nat.gcd n d := (Nat.div_mul_cancel (Nat.gcd_dvd_left n d)).symm
  have h2 : d = d / Nat.gcd n d * Nat.gcd n d := (Nat.div_mul_cancel (Nat.gcd_dvd_right n d)).symm
  have hd1 : 1 ≤ d / Nat.gcd n d := Nat.div_pos (Nat.le_of_dvd (by omega) (Nat.gcd_dvd_right n d)) hg
  have hc : Nat.Coprime (n / Nat.gcd n d) (d / Nat.gcd n d) := Nat.coprime_div_gcd_div_gcd hg
  have e : (n : Rat) / (d : Rat) = ((n / Nat.gcd n d : Nat) : Rat) / ((d / Nat.gcd n d : Nat) : Rat) := by
    generalize Nat.gcd n d = g at *
    generalize hx : n / g = x at *
    generalize hy : d / g = y at *
    subst h1
    have e1 : ((x * g : Nat) : Rat) = (x : Rat) * (g : Rat) := by exact_mod_cast rfl
    have e2 : (d : Rat) = (y : Rat) * (g : Rat) := by rw [h2]; exact_mod_cast rfl
    rw [e1, e2]
    have n1 := castN_ne hg
    have n2 := castN_ne hd1
    grind
  rw [e]
  exact div_num_den hd1 hc
theorem made_yes (neg : Bool) (n d : Nat) (hd : 1 ≤ d) (h1 : n / Nat.gcd n d ≤ 1099511627776) (h2 : d / Nat.gcd n d ≤ 1048576) :
    fit (sgn neg ((n : Rat) / (d : Rat))) = ⟨if neg then -((n / Nat.gcd n d : Nat) : Int) else ((n / Nat.gcd n d : Nat) : Int), ((d / Nat.gcd n d : Nat) : Int), 0⟩ := by
  obtain ⟨hn, hd'⟩ := lowest n d hd
  clear hd
  generalize (n : Rat) / (d : Rat) = q at *
  generalize n / Nat.gcd n d = x at *
  generalize d / Nat.gcd n d = y at *
  cases neg
  · simp only [sgn, Bool.false_eq_true, if_false]
    rw [fit_yes (by omega) (by omega), hn, hd']
  · simp only [sgn, if_true]
    rw [fit_yes (by rw [Rat.neg_num]; omega) (by rw [Rat.neg_den]; omega), Rat.neg_num, Rat.neg_den, hn, hd']
theorem made_no (neg : Bool) (n d : Nat) (hd : 1 ≤ d) (h : ¬ (n / Nat.gcd n d ≤ 1099511627776 ∧ d / Nat.gcd n d ≤ 1048576)) : fit (sgn neg ((n : Rat) / (d : Rat))) = ⟨0, 0, 6⟩ := by
  obtain ⟨hn, hd'⟩ := lowest n d hd
  clear hd
  generalize (n : Rat) / (d : Rat) = q at *
  generalize n / Nat.gcd n d = x at *
  generalize d / Nat.gcd n d = y at *
  cases neg
  · simp only [sgn, Bool.false_eq_true, if_false]
    exact fit_no (by omega)
  · simp only [sgn, if_true]
    exact fit_no (by rw [Rat.neg_num, Rat.neg_den]; omega)
theorem sgn_ratio' (n d : Int) (hd : d ≠ 0) : sgn (!(decide (n < 0) == decide (d < 0))) ((n.natAbs : Rat) / (d.natAbs : Rat)) = (n : Rat) / (d : Rat) := by
  have := sgn_ratio n d hd
  simpa [val, prodN] using this
theorem wrapI (a : Nat) (ha : a ≤ 1099511627776) : IntKind.i64.wrap (a : Int) = (a : Int) := by rw [IntKind.wrap_i64]; omega

set_option maxRecDepth 100000 in
set_option maxHeartbeats 1000000 in
theorem made_any (neg : Bool) (n d : Nat) (w : World) (hn : n < 18446744073709551616) (hd : d < 18446744073709551616) (hd1 : 1 ≤ d) :
    Calls Tryd.prog 88 #[.bool neg, .int .u64 n, .int .u64 d] w fun e w' => e = .returned (rrV (fit (sgn neg ((n : Rat) / (d : Rat))))) ∧ Below w.heap.size w w' := by
  obtain ⟨g, hg⟩ : ∃ g, g = Nat.gcd n d := ⟨_, rfl⟩
  have hg1 : 0 < g := by rw [hg]; exact Nat.gcd_pos_of_pos_right _ hd1
  have HY := Lib.hid (made_yes neg n d hd1)
  have HN := Lib.hid (made_no neg n d hd1)
  rw [← hg] at HY HN
  have HG := Lib.hid (fun W => hg ▸ gcd_any n d W hn hd : ∀ W : World, Calls Tryd.prog 91 #[.int .u64 n, .int .u64 d] W fun e w' => e = .returned (.int .u64 (g : Int)) ∧ ∃ k, w' = W.drewN k)
  clear hg
  have wn := wrap_div n g hn
  have wd := wrap_div d g hd
  obtain ⟨x, hx⟩ : ∃ x, n / g = x := ⟨_, rfl⟩
  obtain ⟨y, hy⟩ : ∃ y, d / g = y := ⟨_, rfl⟩
  rw [hx, hy] at HY HN
  rw [hx] at wn
  rw [hy] at wd
  clear hx hy
  by_cases h1 : x ≤ 1099511627776
  · by_cases h2 : y ≤ 1048576
    · have HF := Lib.hid (HY.out h1 h2)
      have wi1 := wrapI x h1
      have wi2 := wrapI y (by omega)
      cases neg
      · go_enter Tryd.func88, Tryd.ntmps88
        go_wp2_with (go_at_call 91; refine (HG.out _).mono ?_; rintro e w1 ⟨rfl, k1, rfl⟩)
        go_quiet (fail)
        go_wp2
        exact bodyPost_ret (v := .tuple #[.agg #[.int .i64 (x : Int), .int .i64 (y : Int)], .int .i64 0]) (by simp [results, Tryd.results88, go_sem]) rfl ⟨by rw [HF.out] <;> rfl, (by repeat (first | exact Below.refl _ _ | refine below_drewN ?_ _ | refine Below.setCell ?_ (by first | (simp; done) | (simp; omega)) _ | refine Below.alloc ?_ (by first | (simp; done) | (simp; omega)) _))⟩
      · go_enter Tryd.func88, Tryd.ntmps88
        go_wp2_with (go_at_call 91; refine (HG.out _).mono ?_; rintro e w1 ⟨rfl, k1, rfl⟩)
        go_quiet (fail)
        go_wp2
        exact bodyPost_ret (v := .tuple #[.agg #[.int .i64 (-(x : Int)), .int .i64 (y : Int)], .int .i64 0]) (by simp [results, Tryd.results88, go_sem]) rfl ⟨by rw [HF.out] <;> rfl, (by repeat (first | exact Below.refl _ _ | refine below_drewN ?_ _ | refine Below.setCell ?_ (by first | (simp; done) | (simp; omega)) _ | refine Below.alloc ?_ (by first | (simp; done) | (simp; omega)) _))⟩
    · have HF := Lib.hid (HN.out (fun h => h2 h.2))
      go_enter Tryd.func88, Tryd.ntmps88
      go_wp2_with (go_at_call 91; refine (HG.out _).mono ?_; rintro e w1 ⟨rfl, k1, rfl⟩)
      go_quiet (fail)
      go_wp2
      exact bodyPost_ret (v := .tuple #[.agg #[.int .i64 0, .int .i64 0], .int .i64 6]) (by simp [results, Tryd.results88, go_sem]) rfl ⟨by rw [HF.out] <;> rfl, (by repeat (first | exact Below.refl _ _ | refine below_drewN ?_ _ | refine Below.setCell ?_ (by first | (simp; done) | (simp; omega)) _ | refine Below.alloc ?_ (by first | (simp; done) | (simp; omega)) _))⟩
  · have HF := Lib.hid (HN.out (fun h => h1 h.1))
    go_enter Tryd.func88, Tryd.ntmps88
    go_wp2_with (go_at_call 91; refine (HG.out _).mono ?_; rintro e w1 ⟨rfl, k1, rfl⟩)
    go_quiet (fail)
    go_wp2
    exact bodyPost_ret (v := .tuple #[.agg #[.int .i64 0, .int .i64 0], .int .i64 6]) (by simp [results, Tryd.results88, go_sem]) rfl ⟨by rw [HF.out] <;> rfl, (by repeat (first | exact Below.refl _ _ | refine below_drewN ?_ _ | refine Below.setCell ?_ (by first | (simp; done) | (simp; omega)) _ | refine Below.alloc ?_ (by first | (simp; done) | (simp; omega)) _))⟩

set_option maxRecDepth 100000 in
set_option maxHeartbeats 1000000 in
theorem rratio_any (n d : Int) (w : World) (h1 : -9223372036854775808 ≤ n) (h2 : n ≤ 9223372036854775807) (h3 : -9223372036854775808 ≤ d) (h4 : d ≤ 9223372036854775807) :
    Calls Tryd.prog 22 #[.int .i64 n, .int .i64 d] w fun e w' => e = .returned (rrV (ratioF n d)) ∧ Below w.heap.size w w' := by
  by_cases hd : d = 0
  · subst hd
    have HF := Lib.hid (show ratioF n 0 = ⟨0, 0, 9⟩ from if_pos rfl)
    go_enter Tryd.func22, Tryd.ntmps22
    go_wp2
    exact bodyPost_ret (v := .tuple #[.agg #[.int .i64 0, .int .i64 0], .int .i64 9]) (by simp [results, Tryd.results22, go_sem]) rfl ⟨by rw [HF.out] <;> rfl, below_alloc' _ _⟩
  · have bd : (d == 0) = false := by simpa using hd
    have HF := Lib.hid (show ratioF n d = fit ((n : Rat) / (d : Rat)) from if_neg hd)
    have HS := Lib.hid (sgn_ratio' n d hd)
    have bn : n.natAbs < 18446744073709551616 := by omega
    have bd2 : d.natAbs < 18446744073709551616 := by omega
    have bd1 : 1 ≤ d.natAbs := by omega
    clear hd
    go_enter Tryd.func22, Tryd.ntmps22
    go_wp2_with (first | (go_at_call_of 89 (Value.int .i64 n); refine (rsize_any n _ h1 h2).mono ?_; rintro e w1 ⟨rfl, rfl⟩) | (go_at_call_of 89 (Value.int .i64 d); refine (rsize_any d _ h3 h4).mono ?_; rintro e w1 ⟨rfl, rfl⟩))
    have hc := made_any (!(decide (n < 0) == decide (d < 0))) n.natAbs d.natAbs (w.alloc (.cells #[.int .i64 0, .int .i64 0] 23)) bn bd2 bd1
    go_fit hc
    rintro e w1 ⟨rfl, hb1⟩
    rw [HS.out]
    have b0 : w1.heap[w.heap.size]? = some (.cells #[.int .i64 0, .int .i64 0] 23 (0, 0)) := by
      rw [hb1.block _ (by simp)]
      exact heap_alloc_new _ _
    have r0 := cell_of_row w1 _ 0 _ _ _ b0
    have r1 := cell_of_row w1 _ 1 _ _ _ b0
    have y0 := frozen_of_row w1 _ 0 _ _ b0
    have y1 := frozen_of_row w1 _ 1 _ _ b0
    simp at r0 r1
    clear hc
    generalize fit ((n : Rat) / (d : Rat)) = r at *
    go_wp2
    exact bodyPost_ret (v := .tuple #[.agg #[.int .i64 r.n, .int .i64 r.d], .int .i64 r.e]) (by simp [results, Tryd.results22, go_sem, r0, r1]) rfl ⟨by rw [HF.out] <;> rfl, (((below_alloc' w _).trans (hb1.mono (by simp))).setCell (p := ⟨w.heap.size, 0, none⟩) (by simp) _).setCell (p := ⟨w.heap.size, 1, none⟩) (by simp) _⟩
end

section
open Go Go.RowKit
attribute [local go_sem] rrV

/-- What a box of two numbers is asked for. -/
theorem box2i {w : World} {b : Nat} {t : TypeId} {x y : Int} (hb : w.heap[b]? = some (.cells #[.int .i64 x, .int .i64 y] t (0, 0))) :
    w.cell? ⟨b, 0, none⟩ = some (.int .i64 x) ∧ w.cell? ⟨b, 1, none⟩ = some (.int .i64 y) ∧ w.frozen? ⟨b, 0, none⟩ = false ∧ w.frozen? ⟨b, 1, none⟩ = false :=
  ⟨cell_of_row w b 0 _ _ _ hb, cell_of_row w b 1 _ _ _ hb, frozen_of_row w b 0 _ _ hb, frozen_of_row w b 1 _ _ hb⟩
theorem blk_below {w w' : World} {b : Nat} {o : Obj} (hb : w.heap[b]? = some o) (h : Below w.heap.size w w') : w'.heap[b]? = some o := (h.block _ (lt_of_block hb)).trans hb

/-- Two stores into a box of two cells. -/
theorem store2 {w : World} {b : Nat} {t : TypeId} {x y : Value} (hb : w.heap[b]? = some (.cells #[x, y] t (0, 0))) (u v : Value) :
    ((w.setCell ⟨b, 0, none⟩ u).setCell ⟨b, 1, none⟩ v).heap[b]? = some (.cells #[u, v] t (0, 0)) := by
  have h1 := heap_setCell_same w b 0 _ _ u hb
  exact heap_setCell_same _ b 1 _ _ v h1

/-- The number of a ratio. -/
def rat (N D : Int) : Rat := (N : Rat) / (D : Rat)
theorem mul_bd {a b : Int} {x y : Int} (h1 : -x ≤ a) (h2 : a ≤ x) (h3 : 0 ≤ b) (h4 : b ≤ y) (hx : 0 ≤ x) : -(x * y) ≤ a * b ∧ a * b ≤ x * y := by
  have e1 : a * b ≤ x * b := Int.mul_le_mul_of_nonneg_right h2 h3
  have e2 : x * b ≤ x * y := Int.mul_le_mul_of_nonneg_left h4 hx
  have e3 : -x * b ≤ a * b := Int.mul_le_mul_of_nonneg_right h1 h3
  rw [Int.neg_mul] at e3
  omega
theorem isR_bd {N D : Int} (h : isR N D = true) : 1 ≤ D ∧ D ≤ 1048576 ∧ -1099511627776 ≤ N ∧ N ≤ 1099511627776 := by
  have := isR_iff.1 h; omega
/-- What the walk of a product of a numerator and a denominator wants. -/
theorem prod_bd {N D M E : Int} (h : isR N D = true) (k : isR M E = true) : -1152921504606846976 ≤ N * E ∧ N * E ≤ 1152921504606846976 := by
  have h1 := isR_bd h; have h2 := isR_bd k
  have := mul_bd (a := N) (b := E) (x := 1099511627776) (y := 1048576) (by omega) (by omega) (by omega) (by omega) (by decide)
  omega
theorem den_bd {N D M E : Int} (h : isR N D = true) (k : isR M E = true) : 1 ≤ D * E ∧ D * E ≤ 1099511627776 := by
  have h1 := isR_bd h; have h2 := isR_bd k
  have := mul_bd (a := D) (b := E) (x := 1048576) (y := 1048576) (by omega) (by omega) (by omega) (by omega) (by decide)
  have : 0 < D * E := Int.mul_pos (by omega) (by omega)
  omega
theorem isR_ne {N D : Int} (h : isR N D = true) : (D : Rat) ≠ 0 := by
  have := (isR_bd h).1
  intro h0
  have : D = 0 := by exact_mod_cast h0
  omega
theorem ratioF_add {N D M E : Int} (h : isR N D = true) (k : isR M E = true) : ratioF (N * E + M * D) (D * E) = fit (rat N D + rat M E) := by
  have := (den_bd h k).1
  unfold ratioF
  rw [if_neg (by omega)]
  congr 1
  have h1 := isR_ne h; have h2 := isR_ne k
  unfold rat
  rw [Rat.intCast_add, Rat.intCast_mul, Rat.intCast_mul, Rat.intCast_mul]
  grind
theorem ratioF_sub {N D M E : Int} (h : isR N D = true) (k : isR M E = true) : ratioF (N * E - M * D) (D * E) = fit (rat N D - rat M E) := by
  have := (den_bd h k).1
  unfold ratioF
  rw [if_neg (by omega)]
  congr 1
  have h1 := isR_ne h; have h2 := isR_ne k
  unfold rat
  rw [Rat.intCast_sub, Rat.intCast_mul, Rat.intCast_mul, Rat.intCast_mul]
  grind
/-- An operation on two ratios. -/
def opF (N D M E : Int) (r : RR) : RR := if isR N D && isR M E then r else ⟨0, 0, 2⟩
theorem opF_yes {N D M E : Int} {r : RR} (h : isR N D = true) (k : isR M E = true) : opF N D M E r = r := by simp [opF, h, k]
theorem opF_no1 {N D M E : Int} {r : RR} (h : isR N D = false) : opF N D M E r = ⟨0, 0, 2⟩ := by simp [opF, h]
theorem opF_no2 {N D M E : Int} {r : RR} (k : isR M E = false) : opF N D M E r = ⟨0, 0, 2⟩ := by simp [opF, k]
/-- An int's bounds. -/
def Bd (n : Int) : Prop := -9223372036854775808 ≤ n ∧ n ≤ 9223372036854775807


set_option maxRecDepth 100000 in
set_option maxHeartbeats 1000000 in
theorem addc_any (pa pb : Nat) (N D M E : Int) (w : World) (hz : Zw w) (ha : isR N D = true) (hb : isR M E = true)
    (hpa : w.heap[pa]? = some (.cells #[.int .i64 N, .int .i64 D] 23 (0, 0))) (hpb : w.heap[pb]? = some (.cells #[.int .i64 M, .int .i64 E] 23 (0, 0))) :
    Calls Tryd.prog 106 #[.pointer (some ⟨pa, 0, none⟩), .pointer (some ⟨pb, 0, none⟩)] w fun e w' => e = .returned (rrV (fit (rat N D + rat M E))) ∧ Below w.heap.size w w' := by
  obtain ⟨a0, a1, _, _⟩ := box2i hpa
  obtain ⟨b0, b1, _, _⟩ := box2i hpb
  have la := lt_of_block hpa
  have lb := lt_of_block hpb
  obtain ⟨p1, p2⟩ := prod_bd ha hb
  obtain ⟨p3, p4⟩ := prod_bd hb ha
  obtain ⟨p5, p6⟩ := den_bd ha hb
  have HS := Lib.hid (ratioF_add ha hb)
  clear hpa hpb ha hb
  go_enter Tryd.func106, Tryd.ntmps106
  go_wp2_with fail
  have hc := ratio_any (N * E + M * D) (D * E) (w.alloc (.cells #[.int .i64 0, .int .i64 0] 23)) (hz.below (below_alloc' _ _)) (by omega) (by omega) (by omega) (by omega)
  go_fit hc
  rintro e w1 ⟨rfl, hb1⟩
  rw [HS.out]
  have r := box2i (blk_below (heap_alloc_new w _) hb1)
  obtain ⟨r0, r1, y0, y1⟩ := r
  clear hc
  obtain ⟨q, HQ⟩ : ∃ q, Hid (fit (rat N D + rat M E) = q) := ⟨_, rfl⟩
  rw [HQ.out]
  go_wp2
  exact bodyPost_ret (v := .tuple #[.agg #[.int .i64 q.n, .int .i64 q.d], .int .i64 q.e]) (by simp [results, Tryd.results106, go_sem, r0, r1]) rfl ⟨by rw [HQ.out] <;> rfl, ((below_then (below_alloc' w _) hb1).setCell (p := ⟨w.heap.size, 0, none⟩) (by simp) _).setCell (p := ⟨w.heap.size, 1, none⟩) (by simp) _⟩

set_option maxRecDepth 100000 in
set_option maxHeartbeats 1000000 in
theorem addcalc_any (pa pb : Nat) (N D M E : Int) (w : World) (hz : Zw w) (hN : Bd N) (hD : Bd D) (hM : Bd M) (hE : Bd E)
    (hpa : w.heap[pa]? = some (.cells #[.int .i64 N, .int .i64 D] 23 (0, 0))) (hpb : w.heap[pb]? = some (.cells #[.int .i64 M, .int .i64 E] 23 (0, 0))) :
    Calls Tryd.prog 105 #[.agg #[.int .i64 N, .int .i64 D], .agg #[.int .i64 M, .int .i64 E], .func (.func 106) #[] #[.pointer (some ⟨pa, 0, none⟩), .pointer (some ⟨pb, 0, none⟩)]] w fun e w' =>
      e = .returned (rrV (opF N D M E (fit (rat N D + rat M E)))) ∧ Below w.heap.size w w' := by
  obtain ⟨W, hW⟩ : ∃ W, ((w.alloc (.cells #[.int .i64 N, .int .i64 D] 23)).alloc (.cells #[.int .i64 M, .int .i64 E] 23)).alloc (.cells #[.int .i64 0, .int .i64 0] 23) = W := ⟨_, rfl⟩
  have hwW : Below w.heap.size w W := by rw [← hW]; exact (((Below.refl _ _).alloc (Nat.le_refl _) _).alloc (by simp) _).alloc (by simp; omega) _
  have q0 : W.heap[w.heap.size]? = some (.cells #[.int .i64 N, .int .i64 D] 23 (0, 0)) := by
    rw [← hW]; exact (Below.heap_alloc _ _ _ (by simp; omega)).trans (heap_alloc2_old _ _ _)
  have q1 : W.heap[w.heap.size + 1]? = some (.cells #[.int .i64 M, .int .i64 E] 23 (0, 0)) := by
    rw [← hW]; exact (Below.heap_alloc _ _ _ (by simp)).trans (heap_alloc2_new _ _ _)
  have q2 : W.heap[w.heap.size + 1 + 1]? = some (.cells #[.int .i64 0, .int .i64 0] 23 (0, 0)) := by
    rw [← hW]
    have := heap_alloc_new ((w.alloc (.cells #[.int .i64 N, .int .i64 D] 23)).alloc (.cells #[.int .i64 M, .int .i64 E] 23)) (.cells #[.int .i64 0, .int .i64 0] 23)
    simpa using this
  have Q1 := Lib.hid q1
  have Q2 := Lib.hid q2
  have HPA := Lib.hid (blk_below hpa hwW)
  have HPB := Lib.hid (blk_below hpb hwW)
  have hzW := hz.below hwW
  obtain ⟨a0, a1, _, _⟩ := box2i q0
  clear q0 q1 q2 hpa hpb
  go_enter Tryd.func105, Tryd.ntmps105
  go_wp2_with fail
  have hc := isRatio_any N D W hN.1 hN.2 hD.1 hD.2
  by_cases h1 : isR N D = true
  · rw [h1] at hc
    go_fit hc
    rintro e w1 ⟨rfl, hb1⟩
    obtain ⟨b0, b1, _, _⟩ := box2i (blk_below Q1.out hb1)
    clear hc
    go_wp2_with fail
    have hc2 := isRatio_any M E w1 hM.1 hM.2 hE.1 hE.2
    by_cases h2 : isR M E = true
    · rw [h2] at hc2
      go_fit hc2
      rintro e w2 ⟨rfl, hb2⟩
      clear hc2
      go_wp2_with fail
      have hc3 := addc_any pa pb N D M E w2 ((hzW.below hb1).below hb2) h1 h2 (blk_below (blk_below HPA.out hb1) hb2) (blk_below (blk_below HPB.out hb1) hb2)
      go_fit hc3
      rintro e w3 ⟨rfl, hb3⟩
      obtain ⟨r0, r1, y0, y1⟩ := box2i (blk_below (blk_below (blk_below Q2.out hb1) hb2) hb3)
      clear hc3
      have HF := Lib.hid (opF_yes (r := fit (rat N D + rat M E)) h1 h2)
      clear h1 h2
      obtain ⟨q, HQ⟩ : ∃ q, Hid (fit (rat N D + rat M E) = q) := ⟨_, rfl⟩
      rw [HQ.out]
      go_wp2
      exact bodyPost_ret (v := .tuple #[.agg #[.int .i64 q.n, .int .i64 q.d], .int .i64 q.e]) (by simp [results, Tryd.results105, go_sem, r0, r1]) rfl ⟨by rw [HF.out, HQ.out] <;> rfl, ((below_then (below_then (below_then hwW hb1) hb2) hb3).setCell (p := ⟨w.heap.size + 1 + 1, 0, none⟩) (by simp; omega) _).setCell (p := ⟨w.heap.size + 1 + 1, 1, none⟩) (by simp; omega) _⟩
    · have h2 : isR M E = false := by simpa using h2
      rw [h2] at hc2
      go_fit hc2
      rintro e w2 ⟨rfl, hb2⟩
      obtain ⟨r0, r1, y0, y1⟩ := box2i (blk_below (blk_below Q2.out hb1) hb2)
      have HF := Lib.hid (opF_no2 (r := fit (rat N D + rat M E)) (N := N) (D := D) h2)
      clear hc2
      go_wp2
      exact bodyPost_ret (v := .tuple #[.agg #[.int .i64 0, .int .i64 0], .int .i64 2]) (by simp [results, Tryd.results105, go_sem, r0, r1]) rfl ⟨by rw [HF.out] <;> rfl, ((below_then (below_then hwW hb1) hb2).setCell (p := ⟨w.heap.size + 1 + 1, 0, none⟩) (by simp; omega) _).setCell (p := ⟨w.heap.size + 1 + 1, 1, none⟩) (by simp; omega) _⟩
  · have h1 : isR N D = false := by simpa using h1
    rw [h1] at hc
    go_fit hc
    rintro e w1 ⟨rfl, hb1⟩
    obtain ⟨r0, r1, y0, y1⟩ := box2i (blk_below Q2.out hb1)
    have HF := Lib.hid (opF_no1 (r := fit (rat N D + rat M E)) (M := M) (E := E) h1)
    clear hc
    go_wp2
    exact bodyPost_ret (v := .tuple #[.agg #[.int .i64 0, .int .i64 0], .int .i64 2]) (by simp [results, Tryd.results105, go_sem, r0, r1]) rfl ⟨by rw [HF.out] <;> rfl, ((below_then hwW hb1).setCell (p := ⟨w.heap.size + 1 + 1, 0, none⟩) (by simp; omega) _).setCell (p := ⟨w.heap.size + 1 + 1, 1, none⟩) (by simp; omega) _⟩

set_option maxRecDepth 100000 in
set_option maxHeartbeats 1000000 in
theorem add_any (N D M E : Int) (w : World) (hz : Zw w) (hN : Bd N) (hD : Bd D) (hM : Bd M) (hE : Bd E) :
    Calls Tryd.prog 39 #[.agg #[.int .i64 N, .int .i64 D], .agg #[.int .i64 M, .int .i64 E]] w fun e w' => e = .returned (rrV (opF N D M E (fit (rat N D + rat M E)))) ∧ Below w.heap.size w w' := by
  obtain ⟨W, hW⟩ : ∃ W, ((w.alloc (.cells #[.int .i64 N, .int .i64 D] 23)).alloc (.cells #[.int .i64 M, .int .i64 E] 23)).alloc (.cells #[.int .i64 0, .int .i64 0] 23) = W := ⟨_, rfl⟩
  have hwW : Below w.heap.size w W := by rw [← hW]; exact (((Below.refl _ _).alloc (Nat.le_refl _) _).alloc (by simp) _).alloc (by simp; omega) _
  have q0 : W.heap[w.heap.size]? = some (.cells #[.int .i64 N, .int .i64 D] 23 (0, 0)) := by
    rw [← hW]; exact (Below.heap_alloc _ _ _ (by simp; omega)).trans (heap_alloc2_old _ _ _)
  have q1 : W.heap[w.heap.size + 1]? = some (.cells #[.int .i64 M, .int .i64 E] 23 (0, 0)) := by
    rw [← hW]; exact (Below.heap_alloc _ _ _ (by simp)).trans (heap_alloc2_new _ _ _)
  have q2 : W.heap[w.heap.size + 1 + 1]? = some (.cells #[.int .i64 0, .int .i64 0] 23 (0, 0)) := by
    rw [← hW]
    have := heap_alloc_new ((w.alloc (.cells #[.int .i64 N, .int .i64 D] 23)).alloc (.cells #[.int .i64 M, .int .i64 E] 23)) (.cells #[.int .i64 0, .int .i64 0] 23)
    simpa using this
  have Q2 := Lib.hid q2
  have hc := addcalc_any w.heap.size (w.heap.size + 1) N D M E W (hz.below hwW) hN hD hM hE q0 q1
  obtain ⟨a0, a1, _, _⟩ := box2i q0
  obtain ⟨b0, b1, _, _⟩ := box2i q1
  have hmf : ∀ (fn : Fn) (first cap : Array Value) (w : World), (Instr.makeFunc fn first cap).run Tryd.prog w = .ok (.func fn first cap) w := fun _ _ _ _ => rfl
  clear q0 q1 q2
  have HC := Lib.hid hc
  clear hc
  go_enter Tryd.func39, Tryd.ntmps39
  go_wp2_with fail
  go_fit HC.out
  rintro e w1 ⟨rfl, hb1⟩
  obtain ⟨r0, r1, y0, y1⟩ := box2i (blk_below Q2.out hb1)
  clear HC
  obtain ⟨q, HQ⟩ : ∃ q, Hid (opF N D M E (fit (rat N D + rat M E)) = q) := ⟨_, rfl⟩
  rw [HQ.out]
  go_wp2
  exact bodyPost_ret (v := .tuple #[.agg #[.int .i64 q.n, .int .i64 q.d], .int .i64 q.e]) (by simp [results, Tryd.results39, go_sem, r0, r1]) rfl ⟨by rw [HQ.out] <;> rfl, ((below_then hwW hb1).setCell (p := ⟨w.heap.size + 1 + 1, 0, none⟩) (by simp; omega) _).setCell (p := ⟨w.heap.size + 1 + 1, 1, none⟩) (by simp; omega) _⟩

set_option maxRecDepth 100000 in
set_option maxHeartbeats 1000000 in
theorem subc_any (pa pb : Nat) (N D M E : Int) (w : World) (hz : Zw w) (ha : isR N D = true) (hb : isR M E = true)
    (hpa : w.heap[pa]? = some (.cells #[.int .i64 N, .int .i64 D] 23 (0, 0))) (hpb : w.heap[pb]? = some (.cells #[.int .i64 M, .int .i64 E] 23 (0, 0))) :
    Calls Tryd.prog 118 #[.pointer (some ⟨pa, 0, none⟩), .pointer (some ⟨pb, 0, none⟩)] w fun e w' => e = .returned (rrV (fit (rat N D - rat M E))) ∧ Below w.heap.size w w' := by
  obtain ⟨a0, a1, _, _⟩ := box2i hpa
  obtain ⟨b0, b1, _, _⟩ := box2i hpb
  have la := lt_of_block hpa
  have lb := lt_of_block hpb
  obtain ⟨p1, p2⟩ := prod_bd ha hb
  obtain ⟨p3, p4⟩ := prod_bd hb ha
  obtain ⟨p5, p6⟩ := den_bd ha hb
  have HS := Lib.hid (ratioF_sub ha hb)
  clear hpa hpb ha hb
  go_enter Tryd.func118, Tryd.ntmps118
  go_wp2_with fail
  have hc := ratio_any (N * E - M * D) (D * E) (w.alloc (.cells #[.int .i64 0, .int .i64 0] 23)) (hz.below (below_alloc' _ _)) (by omega) (by omega) (by omega) (by omega)
  go_fit hc
  rintro e w1 ⟨rfl, hb1⟩
  rw [HS.out]
  have r := box2i (blk_below (heap_alloc_new w _) hb1)
  obtain ⟨r0, r1, y0, y1⟩ := r
  clear hc
  obtain ⟨q, HQ⟩ : ∃ q, Hid (fit (rat N D - rat M E) = q) := ⟨_, rfl⟩
  rw [HQ.out]
  go_wp2
  exact bodyPost_ret (v := .tuple #[.agg #[.int .i64 q.n, .int .i64 q.d], .int .i64 q.e]) (by simp [results, Tryd.results118, go_sem, r0, r1]) rfl ⟨by rw [HQ.out] <;> rfl, ((below_then (below_alloc' w _) hb1).setCell (p := ⟨w.heap.size, 0, none⟩) (by simp) _).setCell (p := ⟨w.heap.size, 1, none⟩) (by simp) _⟩

set_option maxRecDepth 100000 in
set_option maxHeartbeats 1000000 in
theorem subcalc_any (pa pb : Nat) (N D M E : Int) (w : World) (hz : Zw w) (hN : Bd N) (hD : Bd D) (hM : Bd M) (hE : Bd E)
    (hpa : w.heap[pa]? = some (.cells #[.int .i64 N, .int .i64 D] 23 (0, 0))) (hpb : w.heap[pb]? = some (.cells #[.int .i64 M, .int .i64 E] 23 (0, 0))) :
    Calls Tryd.prog 105 #[.agg #[.int .i64 N, .int .i64 D], .agg #[.int .i64 M, .int .i64 E], .func (.func 118) #[] #[.pointer (some ⟨pa, 0, none⟩), .pointer (some ⟨pb, 0, none⟩)]] w fun e w' =>
      e = .returned (rrV (opF N D M E (fit (rat N D - rat M E)))) ∧ Below w.heap.size w w' := by
  obtain ⟨W, hW⟩ : ∃ W, ((w.alloc (.cells #[.int .i64 N, .int .i64 D] 23)).alloc (.cells #[.int .i64 M, .int .i64 E] 23)).alloc (.cells #[.int .i64 0, .int .i64 0] 23) = W := ⟨_, rfl⟩
  have hwW : Below w.heap.size w W := by rw [← hW]; exact (((Below.refl _ _).alloc (Nat.le_refl _) _).alloc (by simp) _).alloc (by simp; omega) _
  have q0 : W.heap[w.heap.size]? = some (.cells #[.int .i64 N, .int .i64 D] 23 (0, 0)) := by
    rw [← hW]; exact (Below.heap_alloc _ _ _ (by simp; omega)).trans (heap_alloc2_old _ _ _)
  have q1 : W.heap[w.heap.size + 1]? = some (.cells #[.int .i64 M, .int .i64 E] 23 (0, 0)) := by
    rw [← hW]; exact (Below.heap_alloc _ _ _ (by simp)).trans (heap_alloc2_new _ _ _)
  have q2 : W.heap[w.heap.size + 1 + 1]? = some (.cells #[.int .i64 0, .int .i64 0] 23 (0, 0)) := by
    rw [← hW]
    have := heap_alloc_new ((w.alloc (.cells #[.int .i64 N, .int .i64 D] 23)).alloc (.cells #[.int .i64 M, .int .i64 E] 23)) (.cells #[.int .i64 0, .int .i64 0] 23)
    simpa using this
  have Q1 := Lib.hid q1
  have Q2 := Lib.hid q2
  have HPA := Lib.hid (blk_below hpa hwW)
  have HPB := Lib.hid (blk_below hpb hwW)
  have hzW := hz.below hwW
  obtain ⟨a0, a1, _, _⟩ := box2i q0
  clear q0 q1 q2 hpa hpb
  go_enter Tryd.func105, Tryd.ntmps105
  go_wp2_with fail
  have hc := isRatio_any N D W hN.1 hN.2 hD.1 hD.2
  by_cases h1 : isR N D = true
  · rw [h1] at hc
    go_fit hc
    rintro e w1 ⟨rfl, hb1⟩
    obtain ⟨b0, b1, _, _⟩ := box2i (blk_below Q1.out hb1)
    clear hc
    go_wp2_with fail
    have hc2 := isRatio_any M E w1 hM.1 hM.2 hE.1 hE.2
    by_cases h2 : isR M E = true
    · rw [h2] at hc2
      go_fit hc2
      rintro e w2 ⟨rfl, hb2⟩
      clear hc2
      go_wp2_with fail
      have hc3 := subc_any pa pb N D M E w2 ((hzW.below hb1).below hb2) h1 h2 (blk_below (blk_below HPA.out hb1) hb2) (blk_below (blk_below HPB.out hb1) hb2)
      go_fit hc3
      rintro e w3 ⟨rfl, hb3⟩
      obtain ⟨r0, r1, y0, y1⟩ := box2i (blk_below (blk_below (blk_below Q2.out hb1) hb2) hb3)
      clear hc3
      have HF := Lib.hid (opF_yes (r := fit (rat N D - rat M E)) h1 h2)
      clear h1 h2
      obtain ⟨q, HQ⟩ : ∃ q, Hid (fit (rat N D - rat M E) = q) := ⟨_, rfl⟩
      rw [HQ.out]
      go_wp2
      exact bodyPost_ret (v := .tuple #[.agg #[.int .i64 q.n, .int .i64 q.d], .int .i64 q.e]) (by simp [results, Tryd.results105, go_sem, r0, r1]) rfl ⟨by rw [HF.out, HQ.out] <;> rfl, ((below_then (below_then (below_then hwW hb1) hb2) hb3).setCell (p := ⟨w.heap.size + 1 + 1, 0, none⟩) (by simp; omega) _).setCell (p := ⟨w.heap.size + 1 + 1, 1, none⟩) (by simp; omega) _⟩
    · have h2 : isR M E = false := by simpa using h2
      rw [h2] at hc2
      go_fit hc2
      rintro e w2 ⟨rfl, hb2⟩
      obtain ⟨r0, r1, y0, y1⟩ := box2i (blk_below (blk_below Q2.out hb1) hb2)
      have HF := Lib.hid (opF_no2 (r := fit (rat N D - rat M E)) (N := N) (D := D) h2)
      clear hc2
      go_wp2
      exact bodyPost_ret (v := .tuple #[.agg #[.int .i64 0, .int .i64 0], .int .i64 2]) (by simp [results, Tryd.results105, go_sem, r0, r1]) rfl ⟨by rw [HF.out] <;> rfl, ((below_then (below_then hwW hb1) hb2).setCell (p := ⟨w.heap.size + 1 + 1, 0, none⟩) (by simp; omega) _).setCell (p := ⟨w.heap.size + 1 + 1, 1, none⟩) (by simp; omega) _⟩
  · have h1 : isR N D = false := by simpa using h1
    rw [h1] at hc
    go_fit hc
    rintro e w1 ⟨rfl, hb1⟩
    obtain ⟨r0, r1, y0, y1⟩ := box2i (blk_below Q2.out hb1)
    have HF := Lib.hid (opF_no1 (r := fit (rat N D - rat M E)) (M := M) (E := E) h1)
    clear hc
    go_wp2
    exact bodyPost_ret (v := .tuple #[.agg #[.int .i64 0, .int .i64 0], .int .i64 2]) (by simp [results, Tryd.results105, go_sem, r0, r1]) rfl ⟨by rw [HF.out] <;> rfl, ((below_then hwW hb1).setCell (p := ⟨w.heap.size + 1 + 1, 0, none⟩) (by simp; omega) _).setCell (p := ⟨w.heap.size + 1 + 1, 1, none⟩) (by simp; omega) _⟩

set_option maxRecDepth 100000 in
set_option maxHeartbeats 1000000 in
theorem sub_any (N D M E : Int) (w : World) (hz : Zw w) (hN : Bd N) (hD : Bd D) (hM : Bd M) (hE : Bd E) :
    Calls Tryd.prog 65 #[.agg #[.int .i64 N, .int .i64 D], .agg #[.int .i64 M, .int .i64 E]] w fun e w' => e = .returned (rrV (opF N D M E (fit (rat N D - rat M E)))) ∧ Below w.heap.size w w' := by
  obtain ⟨W, hW⟩ : ∃ W, ((w.alloc (.cells #[.int .i64 N, .int .i64 D] 23)).alloc (.cells #[.int .i64 M, .int .i64 E] 23)).alloc (.cells #[.int .i64 0, .int .i64 0] 23) = W := ⟨_, rfl⟩
  have hwW : Below w.heap.size w W := by rw [← hW]; exact (((Below.refl _ _).alloc (Nat.le_refl _) _).alloc (by simp) _).alloc (by simp; omega) _
  have q0 : W.heap[w.heap.size]? = some (.cells #[.int .i64 N, .int .i64 D] 23 (0, 0)) := by
    rw [← hW]; exact (Below.heap_alloc _ _ _ (by simp; omega)).trans (heap_alloc2_old _ _ _)
  have q1 : W.heap[w.heap.size + 1]? = some (.cells #[.int .i64 M, .int .i64 E] 23 (0, 0)) := by
    rw [← hW]; exact (Below.heap_alloc _ _ _ (by simp)).trans (heap_alloc2_new _ _ _)
  have q2 : W.heap[w.heap.size + 1 + 1]? = some (.cells #[.int .i64 0, .int .i64 0] 23 (0, 0)) := by
    rw [← hW]
    have := heap_alloc_new ((w.alloc (.cells #[.int .i64 N, .int .i64 D] 23)).alloc (.cells #[.int .i64 M, .int .i64 E] 23)) (.cells #[.int .i64 0, .int .i64 0] 23)
    simpa using this
  have Q2 := Lib.hid q2
  have hc := subcalc_any w.heap.size (w.heap.size + 1) N D M E W (hz.below hwW) hN hD hM hE q0 q1
  obtain ⟨a0, a1, _, _⟩ := box2i q0
  obtain ⟨b0, b1, _, _⟩ := box2i q1
  have hmf : ∀ (fn : Fn) (first cap : Array Value) (w : World), (Instr.makeFunc fn first cap).run Tryd.prog w = .ok (.func fn first cap) w := fun _ _ _ _ => rfl
  clear q0 q1 q2
  have HC := Lib.hid hc
  clear hc
  go_enter Tryd.func65, Tryd.ntmps65
  go_wp2_with fail
  go_fit HC.out
  rintro e w1 ⟨rfl, hb1⟩
  obtain ⟨r0, r1, y0, y1⟩ := box2i (blk_below Q2.out hb1)
  clear HC
  obtain ⟨q, HQ⟩ : ∃ q, Hid (opF N D M E (fit (rat N D - rat M E)) = q) := ⟨_, rfl⟩
  rw [HQ.out]
  go_wp2
  exact bodyPost_ret (v := .tuple #[.agg #[.int .i64 q.n, .int .i64 q.d], .int .i64 q.e]) (by simp [results, Tryd.results65, go_sem, r0, r1]) rfl ⟨by rw [HQ.out] <;> rfl, ((below_then hwW hb1).setCell (p := ⟨w.heap.size + 1 + 1, 0, none⟩) (by simp; omega) _).setCell (p := ⟨w.heap.size + 1 + 1, 1, none⟩) (by simp; omega) _⟩
end

section
open Go Go.RowKit
attribute [local go_sem] rrV

/-- Floor's three results. -/
def floorV (N D : Int) : Value := if isR N D then .tuple #[.int .i64 (N / D), .agg #[.int .i64 (N % D), .int .i64 D], .int .i64 0] else .tuple #[.int .i64 0, .agg #[.int .i64 0, .int .i64 0], .int .i64 2]
theorem floorV_yes {N D : Int} (h : isR N D = true) : floorV N D = .tuple #[.int .i64 (N / D), .agg #[.int .i64 (N % D), .int .i64 D], .int .i64 0] := if_pos h
theorem floorV_no {N D : Int} (h : isR N D = false) : floorV N D = .tuple #[.int .i64 0, .agg #[.int .i64 0, .int .i64 0], .int .i64 2] := if_neg (by simp [h])

theorem ratioF_rest {N D : Int} (h : isR N D = true) : ratioF (N - N / D * D) D = ⟨N % D, D, 0⟩ := by
  obtain ⟨h1, h2, h3, h4, h5⟩ := isR_iff.1 h
  have e : N - N / D * D = N % D := by
    have := Int.mul_ediv_add_emod N D
    rw [Int.mul_comm] at this
    omega
  have m1 := Int.emod_nonneg N (show D ≠ 0 by omega)
  have m2 := Int.emod_lt_of_pos N (show 0 < D by omega)
  rw [e]
  unfold ratioF
  rw [if_neg (by omega)]
  obtain ⟨a, ha⟩ := Int.eq_ofNat_of_zero_le m1
  obtain ⟨d, hd⟩ := Int.eq_ofNat_of_zero_le (show 0 ≤ D by omega)
  have hc : Nat.Coprime a d := by
    have e1 : Nat.gcd (N % D).natAbs D.natAbs = 1 := by
      have d1 : ((Nat.gcd (N % D).natAbs D.natAbs : Nat) : Int) ∣ D := Int.ofNat_dvd_left.2 (Nat.gcd_dvd_right _ _)
      have d2 : ((Nat.gcd (N % D).natAbs D.natAbs : Nat) : Int) ∣ N % D := Int.ofNat_dvd_left.2 (Nat.gcd_dvd_left _ _)
      have d3 : ((Nat.gcd (N % D).natAbs D.natAbs : Nat) : Int) ∣ N := by
        have h := Int.dvd_add (Int.dvd_trans d1 (Int.dvd_mul_right D (N / D))) d2
        rwa [Int.mul_ediv_add_emod] at h
      have := Nat.dvd_gcd (Int.ofNat_dvd_left.1 d3) (Int.ofNat_dvd_left.1 d1)
      rw [h5] at this
      exact Nat.dvd_one.1 this
    rw [ha, hd] at e1
    simpa using e1
  rw [ha, hd]
  have hq : ((a : Int) : Rat) / ((d : Int) : Rat) = (a : Rat) / (d : Rat) := by norm_cast
  rw [hq]
  obtain ⟨hn, hdn⟩ := div_num_den (show 1 ≤ d by omega) hc
  rw [fit_yes (by omega) (by omega), hn, hdn]

theorem quo_neg {N D : Int} (hN : N < 0) (hD : 1 ≤ D) : (N.tmod D < 0 ∧ N.tdiv D = N / D + 1) ∨ (N.tmod D = 0 ∧ N.tdiv D = N / D) := by
  have m1 := Int.emod_nonneg N (show D ≠ 0 by omega)
  have m2 := Int.emod_lt_of_pos N (show 0 < D by omega)
  have e := Int.mul_ediv_add_emod N D
  have e' := Int.mul_tdiv_add_tmod N D
  by_cases h : N % D = 0
  · right
    have hd : D ∣ N := Int.dvd_of_emod_eq_zero h
    exact ⟨Int.tmod_eq_zero_of_dvd hd, by rw [Int.tdiv_eq_ediv_of_dvd hd]⟩
  · left
    have hd : ¬ D ∣ N := fun hd => h (Int.emod_eq_zero_of_dvd hd)
    have e1 : N.tdiv D = N / D + 1 := by rw [Int.tdiv_eq_ediv, if_neg (by intro h'; exact h'.elim (by omega) hd), Int.sign_eq_one_of_pos (by omega)]
    refine ⟨?_, e1⟩
    rw [e1, Int.mul_add] at e'
    omega

set_option maxRecDepth 100000 in
set_option maxHeartbeats 1000000 in
theorem floor_any (N D : Int) (w : World) (hz : Zw w) (hN : Bd N) (hD : Bd D) :
    Calls Tryd.prog 48 #[.agg #[.int .i64 N, .int .i64 D]] w fun e w' => e = .returned (floorV N D) ∧ Below w.heap.size w w' := by
  obtain ⟨W, hW⟩ : ∃ W, (w.alloc (.cells #[.int .i64 N, .int .i64 D] 23)).alloc (.cells #[.int .i64 0, .int .i64 0] 23) = W := ⟨_, rfl⟩
  have hwW : Below w.heap.size w W := by rw [← hW]; exact ((Below.refl _ _).alloc (Nat.le_refl _) _).alloc (by simp) _
  have q0 : W.heap[w.heap.size]? = some (.cells #[.int .i64 N, .int .i64 D] 23 (0, 0)) := by rw [← hW]; exact heap_alloc2_old _ _ _
  have q1 : W.heap[w.heap.size + 1]? = some (.cells #[.int .i64 0, .int .i64 0] 23 (0, 0)) := by rw [← hW]; exact heap_alloc2_new _ _ _
  have Q0 := Lib.hid q0
  have Q1 := Lib.hid q1
  obtain ⟨a0, a1, _, _⟩ := box2i q0
  clear q0 q1
  go_enter Tryd.func48, Tryd.ntmps48
  go_wp2_with fail
  have hc := isRatio_any N D W hN.1 hN.2 hD.1 hD.2
  by_cases h1 : isR N D = true
  · rw [h1] at hc
    go_fit hc
    rintro e w1 ⟨rfl, hb1⟩
    obtain ⟨b0, b1, _, _⟩ := box2i (blk_below Q0.out hb1)
    clear hc
    obtain ⟨g1, g2, g3, g4⟩ := isR_bd h1
    have HF := Lib.hid (floorV_yes h1)
    have HR := Lib.hid (ratioF_rest h1)
    have bq : -1099511627776 ≤ N / D ∧ N / D ≤ 1099511627776 := by
      constructor
      · refine Int.le_ediv_of_mul_le (by omega) ?_
        have : -1099511627776 * D ≤ -1099511627776 * 1 := Int.mul_le_mul_of_nonpos_left (by decide) g1
        omega
      · refine Int.ediv_le_of_le_mul (by omega) ?_
        have : 1099511627776 * 1 ≤ 1099511627776 * D := Int.mul_le_mul_of_nonneg_left g1 (by decide)
        omega
    obtain ⟨bq1, bq2⟩ := bq
    have bm1 := Int.emod_nonneg N (show D ≠ 0 by omega)
    have bm2 := Int.emod_lt_of_pos N (show 0 < D by omega)
    have bm3 : N / D * D = N - N % D := by have := Int.mul_ediv_add_emod N D; rw [Int.mul_comm] at this; omega
    have bm4 : -2305843009213693952 ≤ N / D * D := by omega
    have bm5 : N / D * D ≤ 2305843009213693952 := by omega
    have HM := Lib.hid bm3
    clear bm3 h1
    by_cases hn : 0 ≤ N
    · go_wp2_with fail
      have hc := ratio_any (N - N / D * D) D w1 ((hz.below hwW).below hb1) (by omega) (by omega) (by omega) (by omega)
      rw [HR.out] at hc
      go_fit hc
      rintro e w2 ⟨rfl, hb2⟩
      clear hc
      have p2 := blk_below (blk_below Q1.out hb1) hb2
      obtain ⟨r0, r1, y0, y1⟩ := box2i p2
      go_wp2
      obtain ⟨W3, hW3⟩ : ∃ W3, (w2.setCell ⟨w.heap.size + 1, 0, none⟩ (.int .i64 (N % D))).setCell ⟨w.heap.size + 1, 1, none⟩ (.int .i64 D) = W3 := ⟨_, rfl⟩
      rw [hW3]
      have b3 : Below w.heap.size w W3 := by rw [← hW3]; exact ((below_then (below_then hwW hb1) hb2).setCell (p := ⟨w.heap.size + 1, 0, none⟩) (by simp) _).setCell (p := ⟨w.heap.size + 1, 1, none⟩) (by simp) _
      have p3 := store2 p2 (.int .i64 (N % D)) (.int .i64 D)
      rw [hW3] at p3
      obtain ⟨s0, s1, u0, u1⟩ := box2i p3
      clear hW3 r0 r1 y0 y1
      go_region
      go_wp2
      exact bodyPost_ret (v := .tuple #[.int .i64 (N / D), .agg #[.int .i64 (N % D), .int .i64 D], .int .i64 0]) (by simp [results, Tryd.results48, go_sem, s0, s1]) rfl ⟨by rw [HF.out] <;> rfl, (by repeat (first | exact b3 | refine Below.drew ?_ | refine below_drewN ?_ _ | refine Below.setCell ?_ (by simp) _))⟩
    · rcases quo_neg (N := N) (by omega) g1 with ⟨t1, t2⟩ | ⟨t1, t2⟩
      · have e2 : N.tdiv D - 1 = N / D := by omega
        have HR2 := Lib.hid (show ratioF (N - (N.tdiv D - 1) * D) D = ⟨N % D, D, 0⟩ by rw [e2]; exact HR.out)
        have c1 : -2305843009213693952 ≤ (N.tdiv D - 1) * D := by rw [e2]; exact bm4
        have c2 : (N.tdiv D - 1) * D ≤ 2305843009213693952 := by rw [e2]; exact bm5
        have c3 : -1099511627776 ≤ (N.tdiv D - 1) := by rw [e2]; exact bq1
        have c4 : (N.tdiv D - 1) ≤ 1099511627776 := by rw [e2]; exact bq2
        have E2 := Lib.hid e2
        clear e2 t2
        go_wp2_with fail
        have hc := ratio_any (N - (N.tdiv D - 1) * D) D w1 ((hz.below hwW).below hb1) (by omega) (by omega) (by omega) (by omega)
        rw [HR2.out] at hc
        go_fit hc
        rintro e w2 ⟨rfl, hb2⟩
        clear hc
        have p2 := blk_below (blk_below Q1.out hb1) hb2
        obtain ⟨r0, r1, y0, y1⟩ := box2i p2
        go_wp2
        obtain ⟨W3, hW3⟩ : ∃ W3, (w2.setCell ⟨w.heap.size + 1, 0, none⟩ (.int .i64 (N % D))).setCell ⟨w.heap.size + 1, 1, none⟩ (.int .i64 D) = W3 := ⟨_, rfl⟩
        rw [hW3]
        have b3 : Below w.heap.size w W3 := by rw [← hW3]; exact ((below_then (below_then hwW hb1) hb2).setCell (p := ⟨w.heap.size + 1, 0, none⟩) (by simp) _).setCell (p := ⟨w.heap.size + 1, 1, none⟩) (by simp) _
        have p3 := store2 p2 (.int .i64 (N % D)) (.int .i64 D)
        rw [hW3] at p3
        obtain ⟨s0, s1, u0, u1⟩ := box2i p3
        clear hW3 r0 r1 y0 y1
        go_region
        go_wp2
        exact bodyPost_ret (v := .tuple #[.int .i64 ((N.tdiv D - 1)), .agg #[.int .i64 (N % D), .int .i64 D], .int .i64 0]) (by simp [results, Tryd.results48, go_sem, s0, s1]) rfl ⟨by rw [HF.out, E2.out] <;> rfl, (by repeat (first | exact b3 | refine Below.drew ?_ | refine below_drewN ?_ _ | refine Below.setCell ?_ (by simp) _))⟩
      · have e2 : N.tdiv D = N / D := by omega
        have t1' : ¬ N.tmod D < 0 := by omega
        clear t1
        have HR2 := Lib.hid (show ratioF (N - N.tdiv D * D) D = ⟨N % D, D, 0⟩ by rw [e2]; exact HR.out)
        have c1 : -2305843009213693952 ≤ N.tdiv D * D := by rw [e2]; exact bm4
        have c2 : N.tdiv D * D ≤ 2305843009213693952 := by rw [e2]; exact bm5
        have c3 : -1099511627776 ≤ N.tdiv D := by rw [e2]; exact bq1
        have c4 : N.tdiv D ≤ 1099511627776 := by rw [e2]; exact bq2
        have E2 := Lib.hid e2
        clear e2 t2
        go_wp2_with fail
        have hc := ratio_any (N - N.tdiv D * D) D w1 ((hz.below hwW).below hb1) (by omega) (by omega) (by omega) (by omega)
        rw [HR2.out] at hc
        go_fit hc
        rintro e w2 ⟨rfl, hb2⟩
        clear hc
        have p2 := blk_below (blk_below Q1.out hb1) hb2
        obtain ⟨r0, r1, y0, y1⟩ := box2i p2
        go_wp2
        obtain ⟨W3, hW3⟩ : ∃ W3, (w2.setCell ⟨w.heap.size + 1, 0, none⟩ (.int .i64 (N % D))).setCell ⟨w.heap.size + 1, 1, none⟩ (.int .i64 D) = W3 := ⟨_, rfl⟩
        rw [hW3]
        have b3 : Below w.heap.size w W3 := by rw [← hW3]; exact ((below_then (below_then hwW hb1) hb2).setCell (p := ⟨w.heap.size + 1, 0, none⟩) (by simp) _).setCell (p := ⟨w.heap.size + 1, 1, none⟩) (by simp) _
        have p3 := store2 p2 (.int .i64 (N % D)) (.int .i64 D)
        rw [hW3] at p3
        obtain ⟨s0, s1, u0, u1⟩ := box2i p3
        clear hW3 r0 r1 y0 y1
        go_region
        go_wp2
        exact bodyPost_ret (v := .tuple #[.int .i64 (N.tdiv D), .agg #[.int .i64 (N % D), .int .i64 D], .int .i64 0]) (by simp [results, Tryd.results48, go_sem, s0, s1]) rfl ⟨by rw [HF.out, E2.out] <;> rfl, (by repeat (first | exact b3 | refine Below.drew ?_ | refine below_drewN ?_ _ | refine Below.setCell ?_ (by simp) _))⟩
  · have h1 : isR N D = false := by simpa using h1
    rw [h1] at hc
    go_fit hc
    rintro e w1 ⟨rfl, hb1⟩
    obtain ⟨r0, r1, y0, y1⟩ := box2i (blk_below Q1.out hb1)
    have HF := Lib.hid (floorV_no h1)
    clear hc
    go_wp2
    exact bodyPost_ret (v := .tuple #[.int .i64 0, .agg #[.int .i64 0, .int .i64 0], .int .i64 2]) (by simp [results, Tryd.results48, go_sem, r0, r1]) rfl ⟨by rw [HF.out] <;> rfl, ((below_then hwW hb1).setCell (p := ⟨w.heap.size + 1, 0, none⟩) (by simp) _).setCell (p := ⟨w.heap.size + 1, 1, none⟩) (by simp) _⟩
end
end Go.Proofs.YtmibpncmebhbjaaDoor
