/- Contracts and small lemmas, taken over from other texts by a program (wip/shake.py). No condition beyond those stated. -/
import Derived.Test.YtdmcopjbckelmaaGreatDoorZA
import Derived.Test.YtdmcopjbckelmaaGreatDoorProg
namespace Go.Proofs.YtdmcopjbckelmaaGreatDoor
section
-- Num
open Go Go.RowKit
set_option maxHeartbeats 400000 in
theorem rsize_any (n : Int) (w : World) (h1 : -9223372036854775808 ≤ n) (h2 : n ≤ 9223372036854775807) :
    Calls Tryz.prog 109 #[.int .i64 n] w fun e w' => e = .returned (.int .u64 n.natAbs) ∧ w = w' := by
  by_cases h : n < 0
  · go_enter Tryz.func109, Tryz.ntmps109
    go_wp2
    go_ret
    exact ⟨ret_u64 (by omega), rfl⟩
  · go_enter Tryz.func109, Tryz.ntmps109
    go_wp2
    go_ret
    exact ⟨ret_u64 (by omega), rfl⟩
set_option maxHeartbeats 400000 in
theorem gcd_any (a b : Nat) (w : World) (ha : a < 18446744073709551616) (hb : b < 18446744073709551616) :
    Calls Tryz.prog 134 #[.int .u64 a, .int .u64 b] w fun e w' => e = .returned (.int .u64 (Nat.gcd a b)) ∧ ∃ n, w' = w.drewN n := by
  go_enter Tryz.func134, Tryz.ntmps134
  go_wp2
  go_loopw [0, 1] (fun x y wr => ∃ (c d n : Nat), c < 18446744073709551616 ∧ d < 18446744073709551616 ∧ x = .int .u64 c ∧ y = .int .u64 d ∧ Nat.gcd a b = Nat.gcd c d ∧ wr = w.drewN n) (fun x _ _ => (intOf x).toNat)
  case atStart => exact ⟨a, b, 0, ha, hb, rfl, rfl, rfl, rfl⟩
  case round =>
    obtain ⟨c, d, n, hc, hd, rfl, rfl, hg, rfl⟩ := hrel
    have HG := Lib.hid hg
    clear hg
    by_cases h0 : 0 < c
    · go_wp2
      go_roundw
      case rel =>
        have := Nat.mod_lt d h0
        exact ⟨d % c, c, _, by omega, hc, by go_num, rfl, by rw [HG.out]; exact Nat.gcd_rec _ _, rfl⟩
      case measure => simp [intOf]; have := Nat.mod_lt d h0; omega
    · go_wp2
      go_ret
      have : c = 0 := by omega
      subst this
      exact ⟨by rw [HG.out]; simp, _, rfl⟩
end

section
-- Ratio3
open Go Go.RowKit
attribute [local go_sem] rrV
theorem lowest (n d : Nat) (hd : 1 ≤ d) : ((n : Rat) / (d : Rat)).num = ((n / Nat.gcd n d : Nat) : Int) ∧ ((n : Rat) / (d : Rat)).den = d / Nat.gcd n d := by
  have hg : 0 < Nat.gcd n d := Nat.gcd_pos_of_pos_right _ hd
  have h1 : n = n / Nat.gcd n d * Nat.gcd n d := (Nat.div_mul_cancel (Nat.gcd_dvd_left n d)).symm
  have h2 : d = d / Nat.gcd n d * Nat.gcd n d := (Nat.div_mul_cancel (Nat.gcd_dvd_right n d)).symm
  have hd1 : 1 ≤ d / Nat.gcd n d := Nat.div_pos (Nat.le_of_dvd (by omega) (Nat.gcd_dvd_right n d)) hg
  have hc : Nat.Coprime (n / Nat.gcd n d) (d / Nat.gcd n d) := Nat.coprime_div_gcd_div_gcd hg
  have e : (n : Rat) / (d : Rat) = ((n / Nat.gcd n d : Nat) : Rat) / ((d / Nat.gcd n d : Nat) : Rat) := by
    generalize Nat.gcd n d = g at *
    generalize hx : n / g = x at *
    generalize hy : d / g = y at *
    subst h1
    have e1 : ((x * g : Nat) : Rat) = (x : Rat) * (g : Rat) := by exact_mod_cast rfl
    have e2 : (d : Rat) = (y : Rat) * (g : Rat) := by rw [h2]; exact_mod_cast rfl
    rw [e1, e2]
    have n1 := castN_ne hg
    have n2 := castN_ne hd1
    grind
  rw [e]
  exact div_num_den hd1 hc
theorem made_yes (neg : Bool) (n d : Nat) (hd : 1 ≤ d) (h1 : n / Nat.gcd n d ≤ 1099511627776) (h2 : d / Nat.gcd n d ≤ 1048576) :
    fit (sgn neg ((n : Rat) / (d : Rat))) = ⟨if neg then -((n / Nat.gcd n d : Nat) : Int) else ((n / Nat.gcd n d : Nat) : Int), ((d / Nat.gcd n d : Nat) : Int), 0⟩ := by
  obtain ⟨hn, hd'⟩ := lowest n d hd
  clear hd
  generalize (n : Rat) / (d : Rat) = q at *
  generalize n / Nat.gcd n d = x at *
  generalize d / Nat.gcd n d = y at *
  cases neg
  · simp only [sgn, Bool.false_eq_true, if_false]
    rw [fit_yes (by omega) (by omega), hn, hd']
  · simp only [sgn, if_true]
    rw [fit_yes (by rw [Rat.neg_num]; omega) (by rw [Rat.neg_den]; omega), Rat.neg_num, Rat.neg_den, hn, hd']
theorem made_no (neg : Bool) (n d : Nat) (hd : 1 ≤ d) (h : ¬ (n / Nat.gcd n d ≤ 1099511627776 ∧ d / Nat.gcd n d ≤ 1048576)) : fit (sgn neg ((n : Rat) / (d : Rat))) = ⟨0, 0, 6⟩ := by
  obtain ⟨hn, hd'⟩ := lowest n d hd
  clear hd
  generalize (n : Rat) / (d : Rat) = q at *
  generalize n / Nat.gcd n d = x at *
  generalize d / Nat.gcd n d = y at *
  cases neg
  · simp only [sgn, Bool.false_eq_true, if_false]
    exact fit_no (by omega)
  · simp only [sgn, if_true]
    exact fit_no (by rw [Rat.neg_num, Rat.neg_den]; omega)
theorem sgn_ratio' (n d : Int) (hd : d ≠ 0) : sgn (!(decide (n < 0) == decide (d < 0))) ((n.natAbs : Rat) / (d.natAbs : Rat)) = (n : Rat) / (d : Rat) := by
  have := sgn_ratio n d hd
  simpa [val, prodN] using this
theorem wrapI (a : Nat) (ha : a ≤ 1099511627776) : IntKind.i64.wrap (a : Int) = (a : Int) := by rw [IntKind.wrap_i64]; omega
set_option maxRecDepth 100000 in
set_option maxHeartbeats 1000000 in
theorem made_any (neg : Bool) (n d : Nat) (w : World) (hn : n < 18446744073709551616) (hd : d < 18446744073709551616) (hd1 : 1 ≤ d) :
    Calls Tryz.prog 108 #[.bool neg, .int .u64 n, .int .u64 d] w fun e w' => e = .returned (rrV (fit (sgn neg ((n : Rat) / (d : Rat))))) ∧ Below w.heap.size w w' := by
  obtain ⟨g, hg⟩ : ∃ g, g = Nat.gcd n d := ⟨_, rfl⟩
  have hg1 : 0 < g := by rw [hg]; exact Nat.gcd_pos_of_pos_right _ hd1
  have HY := Lib.hid (made_yes neg n d hd1)
  have HN := Lib.hid (made_no neg n d hd1)
  rw [← hg] at HY HN
  have HG := Lib.hid (fun W => hg ▸ gcd_any n d W hn hd : ∀ W : World, Calls Tryz.prog 134 #[.int .u64 n, .int .u64 d] W fun e w' => e = .returned (.int .u64 (g : Int)) ∧ ∃ k, w' = W.drewN k)
  clear hg
  have wn := wrap_div n g hn
  have wd := wrap_div d g hd
  obtain ⟨x, hx⟩ : ∃ x, n / g = x := ⟨_, rfl⟩
  obtain ⟨y, hy⟩ : ∃ y, d / g = y := ⟨_, rfl⟩
  rw [hx, hy] at HY HN
  rw [hx] at wn
  rw [hy] at wd
  clear hx hy
  by_cases h1 : x ≤ 1099511627776
  · by_cases h2 : y ≤ 1048576
    · have HF := Lib.hid (HY.out h1 h2)
      have wi1 := wrapI x h1
      have wi2 := wrapI y (by omega)
      cases neg
      · go_enter Tryz.func108, Tryz.ntmps108
        go_wp2_with (go_at_call 134; refine (HG.out _).mono ?_; rintro e w1 ⟨rfl, k1, rfl⟩)
        go_quiet (fail)
        go_wp2
        exact bodyPost_ret (v := .tuple #[.agg #[.int .i64 (x : Int), .int .i64 (y : Int)], .int .i64 0]) (by simp [results, Tryz.results108, go_sem]) rfl ⟨by rw [HF.out] <;> rfl, (by repeat (first | exact Below.refl _ _ | refine below_drewN ?_ _ | refine Below.setCell ?_ (by first | (simp; done) | (simp; omega)) _ | refine Below.alloc ?_ (by first | (simp; done) | (simp; omega)) _))⟩
      · go_enter Tryz.func108, Tryz.ntmps108
        go_wp2_with (go_at_call 134; refine (HG.out _).mono ?_; rintro e w1 ⟨rfl, k1, rfl⟩)
        go_quiet (fail)
        go_wp2
        exact bodyPost_ret (v := .tuple #[.agg #[.int .i64 (-(x : Int)), .int .i64 (y : Int)], .int .i64 0]) (by simp [results, Tryz.results108, go_sem]) rfl ⟨by rw [HF.out] <;> rfl, (by repeat (first | exact Below.refl _ _ | refine below_drewN ?_ _ | refine Below.setCell ?_ (by first | (simp; done) | (simp; omega)) _ | refine Below.alloc ?_ (by first | (simp; done) | (simp; omega)) _))⟩
    · have HF := Lib.hid (HN.out (fun h => h2 h.2))
      go_enter Tryz.func108, Tryz.ntmps108
      go_wp2_with (go_at_call 134; refine (HG.out _).mono ?_; rintro e w1 ⟨rfl, k1, rfl⟩)
      go_quiet (fail)
      go_wp2
      exact bodyPost_ret (v := .tuple #[.agg #[.int .i64 0, .int .i64 0], .int .i64 6]) (by simp [results, Tryz.results108, go_sem]) rfl ⟨by rw [HF.out] <;> rfl, (by repeat (first | exact Below.refl _ _ | refine below_drewN ?_ _ | refine Below.setCell ?_ (by first | (simp; done) | (simp; omega)) _ | refine Below.alloc ?_ (by first | (simp; done) | (simp; omega)) _))⟩
  · have HF := Lib.hid (HN.out (fun h => h1 h.1))
    go_enter Tryz.func108, Tryz.ntmps108
    go_wp2_with (go_at_call 134; refine (HG.out _).mono ?_; rintro e w1 ⟨rfl, k1, rfl⟩)
    go_quiet (fail)
    go_wp2
    exact bodyPost_ret (v := .tuple #[.agg #[.int .i64 0, .int .i64 0], .int .i64 6]) (by simp [results, Tryz.results108, go_sem]) rfl ⟨by rw [HF.out] <;> rfl, (by repeat (first | exact Below.refl _ _ | refine below_drewN ?_ _ | refine Below.setCell ?_ (by first | (simp; done) | (simp; omega)) _ | refine Below.alloc ?_ (by first | (simp; done) | (simp; omega)) _))⟩
set_option maxRecDepth 100000 in
set_option maxHeartbeats 1000000 in
theorem rratio_any (n d : Int) (w : World) (h1 : -9223372036854775808 ≤ n) (h2 : n ≤ 9223372036854775807) (h3 : -9223372036854775808 ≤ d) (h4 : d ≤ 9223372036854775807) :
    Calls Tryz.prog 67 #[.int .i64 n, .int .i64 d] w fun e w' => e = .returned (rrV (ratioF n d)) ∧ Below w.heap.size w w' := by
  by_cases hd : d = 0
  · subst hd
    have HF := Lib.hid (show ratioF n 0 = ⟨0, 0, 9⟩ from if_pos rfl)
    go_enter Tryz.func67, Tryz.ntmps67
    go_wp2
    exact bodyPost_ret (v := .tuple #[.agg #[.int .i64 0, .int .i64 0], .int .i64 9]) (by simp [results, Tryz.results67, go_sem]) rfl ⟨by rw [HF.out] <;> rfl, below_alloc' _ _⟩
  · have bd : (d == 0) = false := by simpa using hd
    have HF := Lib.hid (show ratioF n d = fit ((n : Rat) / (d : Rat)) from if_neg hd)
    have HS := Lib.hid (sgn_ratio' n d hd)
    have bn : n.natAbs < 18446744073709551616 := by omega
    have bd2 : d.natAbs < 18446744073709551616 := by omega
    have bd1 : 1 ≤ d.natAbs := by omega
    clear hd
    go_enter Tryz.func67, Tryz.ntmps67
    go_wp2_with (first | (go_at_call_of 109 (Value.int .i64 n); refine (rsize_any n _ h1 h2).mono ?_; rintro e w1 ⟨rfl, rfl⟩) | (go_at_call_of 109 (Value.int .i64 d); refine (rsize_any d _ h3 h4).mono ?_; rintro e w1 ⟨rfl, rfl⟩))
    have hc := made_any (!(decide (n < 0) == decide (d < 0))) n.natAbs d.natAbs (w.alloc (.cells #[.int .i64 0, .int .i64 0] 32)) bn bd2 bd1
    go_fit hc
    rintro e w1 ⟨rfl, hb1⟩
    rw [HS.out]
    have b0 : w1.heap[w.heap.size]? = some (.cells #[.int .i64 0, .int .i64 0] 32 (0, 0)) := by
      rw [hb1.block _ (by simp)]
      exact heap_alloc_new _ _
    have r0 := cell_of_row w1 _ 0 _ _ _ b0
    have r1 := cell_of_row w1 _ 1 _ _ _ b0
    have y0 := frozen_of_row w1 _ 0 _ _ b0
    have y1 := frozen_of_row w1 _ 1 _ _ b0
    simp at r0 r1
    clear hc
    generalize fit ((n : Rat) / (d : Rat)) = r at *
    go_wp2
    exact bodyPost_ret (v := .tuple #[.agg #[.int .i64 r.n, .int .i64 r.d], .int .i64 r.e]) (by simp [results, Tryz.results67, go_sem, r0, r1]) rfl ⟨by rw [HF.out] <;> rfl, (((below_alloc' w _).trans (hb1.mono (by simp))).setCell (p := ⟨w.heap.size, 0, none⟩) (by simp) _).setCell (p := ⟨w.heap.size, 1, none⟩) (by simp) _⟩
end
end Go.Proofs.YtdmcopjbckelmaaGreatDoor
