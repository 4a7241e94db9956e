/- Plain: the canonical counts of a number: bounds, their total; the values of a valid ladder's signs. -/
import Derived.Test.YtmibpncmebhbjaaDoorCar1
import Derived.Test.YtmibpncmebhbjaaDoorVal1
namespace Go.Proofs.YtmibpncmebhbjaaDoor
open Go Go.RowKit Go.Shelf

theorem splitF_bd (us : List Un) (n : Int) (h : 0 ≤ n) (hf : ∀ u ∈ us, 1 ≤ u.factor) (i : Nat) (x : Int) (hx : (splitF us n)[i]? = some x) : 0 ≤ x ∧ ∀ u, us[i + 1]? = some u → x < u.factor := by
  induction us generalizing n i with
  | nil => simp [splitF] at hx
  | cons u us ih =>
    cases us with
    | nil =>
      cases i with
      | zero => simp only [splitF, List.getElem?_cons_zero, Option.some.injEq] at hx; subst hx; exact ⟨h, fun v hv => by simp at hv⟩
      | succ i => simp [splitF] at hx
    | cons u2 us =>
      have hf2 := hf u2 (by simp)
      rw [show splitF (u :: u2 :: us) n = n % u2.factor :: splitF (u2 :: us) (n / u2.factor) from rfl] at hx
      cases i with
      | zero =>
        simp only [List.getElem?_cons_zero, Option.some.injEq] at hx
        subst hx
        refine ⟨Int.emod_nonneg _ (by omega), fun v hv => ?_⟩
        simp only [Nat.zero_add, List.getElem?_cons_succ, List.getElem?_cons_zero, Option.some.injEq] at hv
        subst hv
        exact Int.emod_lt_of_pos _ (by omega)
      | succ i =>
        simp only [List.getElem?_cons_succ] at hx ⊢
        exact ih (n / u2.factor) (Int.ediv_nonneg h (by omega)) (fun v hv => hf v (by simp at hv ⊢; right; exact hv)) i hx
theorem sum_split (us : List Un) (u : Un) (v : Int) (hv : 1 ≤ v) (q s : Int) (hq : 0 ≤ q) (hs : 0 ≤ s) (hfull : (yl (u :: us) v hv).length = (u :: us).length) (hm : s + q * (v * u.factor) ≤ 1099511627776) :
    sumP (yl (u :: us) v hv) (splitF (u :: us) q) s = some (s + q * (v * u.factor)) := by
  induction us generalizing u v q s with
  | nil =>
    by_cases h1 : 1 ≤ u.factor ∧ u.factor ≤ 60
    · by_cases h2 : v * u.factor ≤ 1099511627776
      · have hp := mul_pos1 hv h1.1
        rw [yl_go h1 h2]
        simp only [yl, splitF, sumP]
        rw [if_neg]
        refine Int.not_lt.2 (Int.le_ediv_of_mul_le (by omega) (by omega))
      · rw [yl_big h2] at hfull; simp at hfull
    · rw [yl_out h1] at hfull; simp at hfull
  | cons u2 us ih =>
    by_cases h1 : 1 ≤ u.factor ∧ u.factor ≤ 60
    · by_cases h2 : v * u.factor ≤ 1099511627776
      · have hp := mul_pos1 hv h1.1
        rw [yl_go h1 h2] at hfull ⊢
        have hfull' : (yl (u2 :: us) (v * u.factor) (mul_pos1 hv h1.1)).length = (u2 :: us).length := by simpa using hfull
        have hf2 : 1 ≤ u2.factor := by
          by_cases h3 : 1 ≤ u2.factor ∧ u2.factor ≤ 60
          · exact h3.1
          · rw [yl_out h3] at hfull'; simp at hfull'
        have m1 := Int.emod_nonneg q (show u2.factor ≠ 0 by omega)
        have m2 := Int.mul_ediv_add_emod q u2.factor
        have d1 := Int.ediv_nonneg hq (show 0 ≤ u2.factor by omega)
        have hle : q % u2.factor ≤ q := by
          have := Int.mul_nonneg (show 0 ≤ u2.factor by omega) d1
          omega
        have hcm : q % u2.factor * (v * u.factor) ≤ q * (v * u.factor) := Int.mul_le_mul_of_nonneg_right hle (by omega)
        have hc0 := Int.mul_nonneg m1 (show 0 ≤ v * u.factor by omega)
        have e : s + q % u2.factor * (v * u.factor) + q / u2.factor * (v * u.factor * u2.factor) = s + q * (v * u.factor) := by
          have : q * (v * u.factor) = (u2.factor * (q / u2.factor) + q % u2.factor) * (v * u.factor) := by rw [m2]
          rw [this, Int.add_mul, Int.mul_comm u2.factor, Int.mul_assoc (q / u2.factor), Int.mul_comm u2.factor]
          omega
        rw [show splitF (u :: u2 :: us) q = q % u2.factor :: splitF (u2 :: us) (q / u2.factor) from rfl]
        simp only [sumP]
        rw [if_neg (Int.not_lt.2 (Int.le_ediv_of_mul_le (by omega) (by omega)))]
        rw [ih u2 (v * u.factor) (mul_pos1 hv h1.1) (q / u2.factor) (s + q % u2.factor * (v * u.factor)) d1 (by omega) hfull' (by rw [e]; exact hm), e]
      · rw [yl_big h2] at hfull; simp at hfull
    · rw [yl_out h1] at hfull; simp at hfull
theorem total_split {nm : ByteArray} {us : List Un} (h : checkF nm us = 0) {n : Int} (h0 : 0 ≤ n) (h1 : n ≤ 1099511627776) : totalF nm us (splitF us n) = (n, 0) := by
  obtain ⟨u, us', rfl, hf1⟩ := check_first h
  have hful := checkB_full h
  have hf := (checkF_zero h).1
  have hneg : negB (splitF (u :: us') n) = false := negB_no fun j hj => (splitF_bd _ n h0 (fun x hx => (hf x hx).1) j _ (List.getElem?_eq_getElem hj)).1
  have hE : totalE nm (u :: us') (splitF (u :: us') n) = 0 := totalE_good h (by rw [splitF_length]; exact Nat.le_refl _)
  rw [totalF_sum hE hneg, sum_split us' u 1 (by decide) n 0 h0 (by decide) hful (by rw [hf1]; omega), hf1]
  simp
theorem rGo_all {us : List Un} (h : rGo [] us = true) (k : Nat) (hk : k < us.length) : okU (us.take k) us[k] = true := by
  have key : ∀ k, k ≤ us.length → rGo (us.take k) (us.drop k) = true := by
    intro k
    induction k with
    | zero => intro _; simpa using h
    | succ k ih =>
      intro hk'
      have := ih (by omega)
      rw [rGo_step (by omega), Bool.and_eq_true] at this
      exact this.2
  have := key k (by omega)
  rw [rGo_step hk, Bool.and_eq_true] at this
  exact this.1
theorem sgnAt_own {nm : ByteArray} {us : List Un} (h : checkF nm us = 0) {k : Nat} (hk : k < us.length) : sgnAt us[k].sign us = some k := by
  rw [checkF_r] at h
  have hb : rcheckB nm us = true := by split at h <;> simp_all
  simp only [rcheckB, Bool.and_eq_true] at hb
  have h1 := rGo_all hb.1.2 k hk
  rw [okU_eq hk] at h1
  simp only [Bool.and_eq_true, decide_eq_true_eq] at h1
  have h2 := h1.1.2
  unfold sgnI at h2
  split at h2
  · next i hi =>
    have : i = k := by omega
    rw [hi, this]
  · omega
theorem value_own {nm : ByteArray} {us : List Un} (h : checkF nm us = 0) {k : Nat} (hk : k < us.length) (hv : k < (vals us).length) : valueF nm us us[k].sign = ((vals us)[k], 0) := by
  obtain ⟨v, e, hF⟩ := valueF_yes h (sgnAt_own h hk)
  rw [List.getElem?_eq_getElem hv] at e
  injection e with e
  rw [hF, e]
theorem vals_first {nm : ByteArray} {us : List Un} (h : checkF nm us = 0) (hv : 0 < (vals us).length) : (vals us)[0] = 1 := by
  obtain ⟨u, us', rfl, hf1⟩ := check_first h
  have e : vals (u :: us') = vls (u :: us') 1 := yl_vls (checkB_full h)
  have : (vals (u :: us'))[0]? = some 1 := by rw [e]; simp [vls, hf1]
  rw [List.getElem?_eq_getElem hv] at this
  injection this
theorem split_last {nm : ByteArray} {us : List Un} (h : checkF nm us = 0) (n : Int) {k : Nat} (hk : k + 1 = us.length) (hv : k < (vals us).length) : (splitF us n)[k]? = some (n / (vals us)[k]) := by
  rw [splitF_rest h n (by omega) hv, restN_top]
  rw [vals, List.length_map, checkB_full h]; omega
theorem ratioF_one {n : Int} (h0 : 0 ≤ n) (h1 : n ≤ 1099511627776) : ratioF n 1 = ⟨n, 1, 0⟩ := by
  obtain ⟨a, ha⟩ := Int.eq_ofNat_of_zero_le h0
  subst ha
  unfold ratioF
  rw [if_neg (by decide)]
  have hq : (((a : Nat) : Int) : Rat) / ((1 : Int) : Rat) = (a : Rat) / ((1 : Nat) : Rat) := by norm_cast
  rw [hq]
  obtain ⟨hn, hd⟩ := div_num_den (a := a) (b := 1) (by decide) (Nat.coprime_one_right a)
  rw [fit_yes (by rw [hn]; omega) (by rw [hd]; decide), hn, hd]
  rfl
end Go.Proofs.YtmibpncmebhbjaaDoor
