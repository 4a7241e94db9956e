/- Plain: ratios in order. -/
import Derived.Test.YtmibpncmebhbjaaDoorCmp
namespace Go.Proofs.YtmibpncmebhbjaaDoor
open Go Go.RowKit Go.Shelf

theorem div_lowest {N D : Int} (h : isR N D = true) : (rat N D).num = N ∧ ((rat N D).den : Int) = D := by
  obtain ⟨h1, h2, h3, h4, h5⟩ := isR_iff.1 h
  obtain ⟨d, rfl⟩ := Int.eq_ofNat_of_zero_le (show 0 ≤ D by omega)
  have hd : 1 ≤ d := by omega
  rw [Int.natAbs_natCast] at h5
  unfold rat
  by_cases hN : 0 ≤ N
  · obtain ⟨a, rfl⟩ := Int.eq_ofNat_of_zero_le hN
    rw [Int.natAbs_natCast] at h5
    have e : (((a : Nat) : Int) : Rat) / (((d : Nat) : Int) : Rat) = (a : Rat) / (d : Rat) := by norm_cast
    rw [e]
    obtain ⟨e1, e2⟩ := div_num_den hd h5
    exact ⟨e1, by rw [e2]⟩
  · obtain ⟨a, ha⟩ := Int.eq_ofNat_of_zero_le (show 0 ≤ -N by omega)
    have hNa : N = -(a : Int) := by omega
    subst hNa
    rw [Int.natAbs_neg, Int.natAbs_natCast] at h5
    have e : ((-(a : Int) : Int) : Rat) / (((d : Nat) : Int) : Rat) = -((a : Rat) / (d : Rat)) := by
      have e1 : ((-(a : Int) : Int) : Rat) = -(a : Rat) := by norm_cast
      have e2 : (((d : Nat) : Int) : Rat) = (d : Rat) := by norm_cast
      rw [e1, e2, Rat.div_def, Rat.neg_mul, ← Rat.div_def]
    rw [e]
    obtain ⟨e1, e2⟩ := div_num_den hd h5
    exact ⟨by rw [Rat.neg_num, e1], by rw [Rat.neg_den, e2]⟩
theorem cmp_lt {N D M E : Int} (h : isR N D = true) (k : isR M E = true) : N * E < M * D ↔ rat N D < rat M E := by
  obtain ⟨a1, a2⟩ := div_lowest h
  obtain ⟨b1, b2⟩ := div_lowest k
  rw [Rat.lt_iff, a1, a2, b1, b2]
/-- Cmp as the order of the ratios. -/
theorem cmpI_rat {N D M E : Int} (h : isR N D = true) (k : isR M E = true) : cmpI N D M E = if rat N D < rat M E then -1 else if rat M E < rat N D then 1 else 0 := by
  unfold cmpI
  simp only [cmp_lt h k, cmp_lt k h]
theorem fit_isR {q : Rat} (h : (fit q).e = 0) : isR (fit q).n (fit q).d = true ∧ rat (fit q).n (fit q).d = q := by
  by_cases h' : q.num.natAbs ≤ 1099511627776 ∧ q.den ≤ 1048576
  · rw [fit_yes h'.1 h'.2]
    have hd := q.den_pos
    refine ⟨isR_iff.2 ⟨by simp only; omega, by simp only; omega, by simp only; omega, by simp only; omega, ?_⟩, ?_⟩
    · simp only [Int.natAbs_natCast]; exact q.reduced
    · simp only [rat]
      rw [← Rat.divInt_eq_div, Rat.num_divInt_den]
  · rw [fit_no h'] at h; simp at h
theorem fit_rat {N D : Int} (h : isR N D = true) : fit (rat N D) = ⟨N, D, 0⟩ := by
  obtain ⟨a1, a2⟩ := div_lowest h
  obtain ⟨h1, h2, h3, h4, _⟩ := isR_iff.1 h
  rw [fit_yes (by rw [a1]; omega) (by omega), a1, a2]
/-- The sign of an order. -/
def sgQ (p q : Rat) : Int := if p < q then -1 else if q < p then 1 else 0
theorem sgQ_kinds (p q : Rat) : (p < q ∧ sgQ p q = -1 ∧ sgQ q p = 1) ∨ (p = q ∧ sgQ p q = 0 ∧ sgQ q p = 0) ∨ (q < p ∧ sgQ p q = 1 ∧ sgQ q p = -1) := by
  unfold sgQ
  by_cases h : p < q
  · have h' : ¬ q < p := by grind
    left; simp [h, h']
  · by_cases h2 : q < p
    · right; right; simp [h, h2]
    · right; left
      refine ⟨by grind, by simp [h, h2], by simp [h, h2]⟩
theorem sgQ_trans {p q r : Rat} (h1 : sgQ p q ≤ 0) (h2 : sgQ q r ≤ 0) : sgQ p r ≤ 0 := by
  have a1 : ¬ q < p := by
    intro h
    rcases sgQ_kinds p q with ⟨a, b, c⟩ | ⟨a, b, c⟩ | ⟨a, b, c⟩
    · grind
    · grind
    · omega
  have a2 : ¬ r < q := by
    intro h
    rcases sgQ_kinds q r with ⟨a, b, c⟩ | ⟨a, b, c⟩ | ⟨a, b, c⟩
    · grind
    · grind
    · omega
  rcases sgQ_kinds p r with ⟨a, b, c⟩ | ⟨a, b, c⟩ | ⟨a, b, c⟩
  · omega
  · omega
  · exfalso; grind
theorem sgQ_add (p q r : Rat) : sgQ (p + r) (q + r) = sgQ p q := by
  unfold sgQ
  have e1 : (p + r < q + r) ↔ p < q := by constructor <;> intro h <;> grind
  have e2 : (q + r < p + r) ↔ q < p := by constructor <;> intro h <;> grind
  simp only [e1, e2]
theorem cmpV_rat {N D M E : Int} (h : isR N D = true) (k : isR M E = true) : cmpV N D M E = sgQ (rat N D) (rat M E) ∧ cmpE N D M E = 0 := by
  refine ⟨?_, by simp [cmpE, h, k]⟩
  rw [cmpV, h, k]
  exact cmpI_rat h k
theorem rat_inj {N D M E : Int} (h : isR N D = true) (k : isR M E = true) (e : rat N D = rat M E) : N = M ∧ D = E := by
  obtain ⟨a1, a2⟩ := div_lowest h
  obtain ⟨b1, b2⟩ := div_lowest k
  rw [e] at a1 a2
  exact ⟨by omega, by omega⟩
theorem rat_floor {N D : Int} (h : isR N D = true) : isR (N / D) 1 = true ∧ isR (N % D) D = true ∧ rat (N / D) 1 + rat (N % D) D = rat N D ∧ 0 ≤ N % D ∧ N % D < D := by
  obtain ⟨h1, h2, h3, h4, h5⟩ := isR_iff.1 h
  have m1 := Int.emod_nonneg N (show D ≠ 0 by omega)
  have m2 := Int.emod_lt_of_pos N (show 0 < D by omega)
  have bq : -1099511627776 ≤ N / D ∧ N / D ≤ 1099511627776 := by
    constructor
    · refine Int.le_ediv_of_mul_le (by omega) ?_
      have : -1099511627776 * D ≤ -1099511627776 * 1 := Int.mul_le_mul_of_nonpos_left (by decide) h1
      omega
    · refine Int.ediv_le_of_le_mul (by omega) ?_
      have : 1099511627776 * 1 ≤ 1099511627776 * D := Int.mul_le_mul_of_nonneg_left h1 (by decide)
      omega
  have e1 := ratioF_rest h
  have hq : isR (N % D) D = true := by
    have e2 : ratioF (N - N / D * D) D = fit (rat (N - N / D * D) D) := if_neg (by omega)
    rw [e1] at e2
    have := fit_isR (q := rat (N - N / D * D) D) (by rw [← e2])
    rw [← e2] at this
    exact this.1
  refine ⟨isR_iff.2 ⟨by decide, by decide, bq.1, bq.2, by simp⟩, hq, ?_, m1, m2⟩
  have hd := isR_ne h
  have e3 := Int.mul_ediv_add_emod N D
  have e4 : (N : Rat) = (D : Rat) * ((N / D : Int) : Rat) + ((N % D : Int) : Rat) := by exact_mod_cast e3.symm
  unfold rat
  generalize ((N / D : Int) : Rat) = a at *
  generalize ((N % D : Int) : Rat) = b at *
  rw [e4]
  have e5 : ((1 : Int) : Rat) = 1 := rfl
  rw [e5]
  grind
end Go.Proofs.YtmibpncmebhbjaaDoor
