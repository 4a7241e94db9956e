/- Contracts and small lemmas, taken over from other texts by a program (wip/shake.py). No condition beyond those stated. -/
import Derived.Test.YthpjeclhignciaaDoorTA
namespace Go.Proofs.YthpjeclhignciaaDoor
section
-- Ord1
open Go Go.RowKit Go.Shelf
theorem div_lowest {N D : Int} (h : isR N D = true) : (rat N D).num = N ∧ ((rat N D).den : Int) = D := by
  obtain ⟨h1, h2, h3, h4, h5⟩ := isR_iff.1 h
  obtain ⟨d, rfl⟩ := Int.eq_ofNat_of_zero_le (show 0 ≤ D by omega)
  have hd : 1 ≤ d := by omega
  rw [Int.natAbs_natCast] at h5
  unfold rat
  by_cases hN : 0 ≤ N
  · obtain ⟨a, rfl⟩ := Int.eq_ofNat_of_zero_le hN
    rw [Int.natAbs_natCast] at h5
    have e : (((a : Nat) : Int) : Rat) / (((d : Nat) : Int) : Rat) = (a : Rat) / (d : Rat) := by norm_cast
    rw [e]
    obtain ⟨e1, e2⟩ := div_num_den hd h5
    exact ⟨e1, by rw [e2]⟩
  · obtain ⟨a, ha⟩ := Int.eq_ofNat_of_zero_le (show 0 ≤ -N by omega)
    have hNa : N = -(a : Int) := by omega
    subst hNa
    rw [Int.natAbs_neg, Int.natAbs_natCast] at h5
    have e : ((-(a : Int) : Int) : Rat) / (((d : Nat) : Int) : Rat) = -((a : Rat) / (d : Rat)) := by
      have e1 : ((-(a : Int) : Int) : Rat) = -(a : Rat) := by norm_cast
      have e2 : (((d : Nat) : Int) : Rat) = (d : Rat) := by norm_cast
      rw [e1, e2, Rat.div_def, Rat.neg_mul, ← Rat.div_def]
    rw [e]
    obtain ⟨e1, e2⟩ := div_num_den hd h5
    exact ⟨by rw [Rat.neg_num, e1], by rw [Rat.neg_den, e2]⟩
theorem fit_isR {q : Rat} (h : (fit q).e = 0) : isR (fit q).n (fit q).d = true ∧ rat (fit q).n (fit q).d = q := by
  by_cases h' : q.num.natAbs ≤ 1099511627776 ∧ q.den ≤ 1048576
  · rw [fit_yes h'.1 h'.2]
    have hd := q.den_pos
    refine ⟨isR_iff.2 ⟨by simp only; omega, by simp only; omega, by simp only; omega, by simp only; omega, ?_⟩, ?_⟩
    · simp only [Int.natAbs_natCast]; exact q.reduced
    · simp only [rat]
      rw [← Rat.divInt_eq_div, Rat.num_divInt_den]
  · rw [fit_no h'] at h; simp at h
theorem rat_inj {N D M E : Int} (h : isR N D = true) (k : isR M E = true) (e : rat N D = rat M E) : N = M ∧ D = E := by
  obtain ⟨a1, a2⟩ := div_lowest h
  obtain ⟨b1, b2⟩ := div_lowest k
  rw [e] at a1 a2
  exact ⟨by omega, by omega⟩
end
end Go.Proofs.YthpjeclhignciaaDoor
