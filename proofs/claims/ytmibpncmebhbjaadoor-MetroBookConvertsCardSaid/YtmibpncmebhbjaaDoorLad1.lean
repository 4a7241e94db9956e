/- Plain: the canonical counts, from the top down; a rounded number; in units of a sign. No condition. -/
import Derived.Test.YtmibpncmebhbjaaDoorRef1
namespace Go.Proofs.YtmibpncmebhbjaaDoor
open Go Go.RowKit Go.Shelf

def vls : List Un → Int → List Int
  | [], _ => []
  | u :: us, v => v * u.factor :: vls us (v * u.factor)
theorem vls_length (us : List Un) (v : Int) : (vls us v).length = us.length := by
  induction us generalizing v with
  | nil => rfl
  | cons u us ih => simp [vls, ih]
theorem yl_vls {us : List Un} {v : Int} {hv : 1 ≤ v} (h : (yl us v hv).length = us.length) : (yl us v hv).map (·.v) = vls us v := by
  induction us generalizing v with
  | nil => simp [yl, vls]
  | cons u us ih =>
    by_cases h1 : 1 ≤ u.factor ∧ u.factor ≤ 60
    · by_cases h2 : v * u.factor ≤ 1099511627776
      · rw [yl_go h1 h2] at h ⊢
        simp only [List.map_cons, vls]
        rw [ih (by simpa using h)]
      · rw [yl_big h2] at h; simp at h
    · rw [yl_out h1] at h; simp at h
theorem emod_mul_ediv (n a b : Int) (ha : 1 ≤ a) : n % (a * b) / a = n / a % b := by
  rw [Int.emod_def n (a * b), Int.emod_def (n / a) b, Int.ediv_ediv_of_nonneg (by omega : 0 ≤ a)]
  have : n - a * b * (n / (a * b)) = n + a * (-(b * (n / (a * b)))) := by rw [Int.mul_neg, Int.mul_assoc]; omega
  rw [this, Int.add_mul_ediv_left _ _ (by omega)]
  omega
theorem splitF_vls (us : List Un) (u : Un) (v n : Int) (hv : 1 ≤ v) (hf : ∀ x ∈ u :: us, 1 ≤ x.factor) (i : Nat) (hi : i < us.length + 1) :
    (splitF (u :: us) (n / (v * u.factor)))[i]? = (vls (u :: us) v)[i]?.map fun y => match (vls (u :: us) v)[i + 1]? with | some z => n % z / y | none => n / y := by
  induction us generalizing u v i with
  | nil =>
    have : i = 0 := by simpa using hi
    subst this
    simp [splitF, vls]
  | cons u2 us ih =>
    have h1 := hf u (by simp)

    have hv1 := mul_pos1 hv h1
    have e : splitF (u :: u2 :: us) (n / (v * u.factor)) = n / (v * u.factor) % u2.factor :: splitF (u2 :: us) (n / (v * u.factor * u2.factor)) := by
      rw [show splitF (u :: u2 :: us) (n / (v * u.factor)) = n / (v * u.factor) % u2.factor :: splitF (u2 :: us) (n / (v * u.factor) / u2.factor) from rfl, Int.ediv_ediv_of_nonneg (by omega)]
    rw [e]
    cases i with
    | zero =>
      simp only [vls, List.getElem?_cons_zero, Option.map_some, Nat.zero_add, List.getElem?_cons_succ]
      rw [emod_mul_ediv n _ _ hv1]
    | succ i =>
      simp only [List.getElem?_cons_succ]
      rw [ih u2 (v * u.factor) hv1 (fun x hx => hf x (by simp at hx ⊢; right; exact hx)) i (by simpa using hi)]
      rfl
theorem vls_step {us : List Un} {v : Int} {i : Nat} {z : Int} (h : (vls us v)[i + 1]? = some z) : ∃ y f, (vls us v)[i]? = some y ∧ z = y * f := by
  induction us generalizing v i with
  | nil => simp [vls] at h
  | cons u us ih =>
    simp only [vls, List.getElem?_cons_succ] at h
    cases i with
    | zero =>
      cases us with
      | nil => simp [vls] at h
      | cons u2 us => exact ⟨v * u.factor, u2.factor, rfl, by simpa [vls] using h.symm⟩
    | succ i =>
      obtain ⟨y, f, h1, h2⟩ := ih h
      exact ⟨y, f, by simpa [vls] using h1, h2⟩
theorem vals_get {us : List Un} {i : Nat} (h : i < (vals us).length) : 1 ≤ (vals us)[i] ∧ (vals us)[i] ≤ 1099511627776 := by
  have : (vals us)[i] ∈ vals us := List.getElem_mem _
  obtain ⟨x, _, hx⟩ := List.mem_map.1 this
  rw [← hx]
  exact x.h2

/-- What the reference's loop holds when j counts are still to be made. -/
def restN (us : List Un) (n : Int) (j : Nat) : Int := match (vals us)[j]? with | some z => n % z | none => n
theorem check_first {nm : ByteArray} {us : List Un} (h : checkF nm us = 0) : ∃ u us', us = u :: us' ∧ u.factor = 1 := by
  rw [checkF_r] at h
  have : rcheckB nm us = true := by split at h <;> simp_all
  simp only [rcheckB, Bool.and_eq_true] at this
  cases us with
  | nil => simp at this
  | cons u us =>
    have h1 := this.1.2
    simp only [rGo, Bool.and_eq_true, okU] at h1
    exact ⟨u, us, rfl, by simpa using h1.1.2⟩
theorem splitF_rest {nm : ByteArray} {us : List Un} (h : checkF nm us = 0) (n : Int) {i : Nat} (hi : i < us.length) (hv : i < (vals us).length) : (splitF us n)[i]? = some (restN us n (i + 1) / (vals us)[i]) := by
  obtain ⟨u, us', rfl, h1⟩ := check_first h
  have hful := checkB_full h
  have hf := (checkF_zero h).1
  have := splitF_vls us' u 1 n (by decide) (fun x hx => (hf x hx).1) i (by simpa using hi)
  rw [h1, Int.one_mul, Int.ediv_one] at this
  rw [this]
  have e : vls (u :: us') 1 = vals (u :: us') := (yl_vls hful).symm
  rw [e, List.getElem?_eq_getElem hv]
  unfold restN
  rw [Option.map_some]
  cases (vals (u :: us'))[i + 1]? <;> rfl
theorem restN_step {nm : ByteArray} {us : List Un} (h : checkF nm us = 0) (n : Int) {i : Nat} (hv : i < (vals us).length) : restN us n (i + 1) % (vals us)[i] = restN us n i := by
  have e : vls us 1 = vals us := (yl_vls (checkB_full h)).symm
  have e0 : restN us n i = n % (vals us)[i] := by unfold restN; rw [List.getElem?_eq_getElem hv]
  rw [e0]
  unfold restN
  cases hz : (vals us)[i + 1]? with
  | none => rfl
  | some z =>
    rw [← e] at hz
    obtain ⟨y, f, h1, h2⟩ := vls_step hz
    rw [e, List.getElem?_eq_getElem hv] at h1
    injection h1 with h1
    simp only
    rw [h2, ← h1]
    exact Int.emod_emod_of_dvd n (Int.dvd_mul_right _ _)
theorem restN_top {us : List Un} {n : Int} {j : Nat} (h : (vals us).length ≤ j) : restN us n j = n := by unfold restN; rw [List.getElem?_eq_none h]
theorem restN_bd {us : List Un} {n : Int} (j : Nat) (h : 0 ≤ n) (h2 : n ≤ 1099511627776) : 0 ≤ restN us n j ∧ restN us n j ≤ 1099511627776 := by
  unfold restN
  split
  · next z hz =>
    have : z ∈ vals us := List.mem_of_getElem? hz
    obtain ⟨x, _, hx⟩ := List.mem_map.1 this
    have := x.h2
    have m1 := Int.emod_nonneg n (show z ≠ 0 by omega)
    have m2 := Int.emod_lt_of_pos n (show 0 < z by omega)
    omega
  · exact ⟨h, h2⟩
theorem valueF_bd {nm : ByteArray} {us : List Un} {s : ByteArray} (h : (valueF nm us s).2 = 0) : 1 ≤ (valueF nm us s).1 ∧ (valueF nm us s).1 ≤ 1099511627776 := by
  by_cases hc : checkF nm us = 0
  · cases hi : sgnAt s us with
    | none => rw [valueF_no hc hi] at h; simp at h
    | some i =>
      obtain ⟨v, hv, e⟩ := valueF_yes hc hi
      rw [e]
      obtain ⟨x, _, hx⟩ := List.mem_map.1 (List.mem_of_getElem? hv)
      have := x.h2
      rw [← hx]; exact this
  · rw [valueF_bad s hc] at h
    exact absurd h hc

/-- In: of what Value says. -/
def inF (v e n : Int) : RR := if e = 0 then (if rangeB n then ratioF n v else ⟨0, 0, 8⟩) else ⟨0, 0, e⟩
/-- Round: of what Value says. -/
def roundF (v e n : Int) : Int × Int :=
  if e = 0 then (if rangeB n then (if v ≤ 2 * (n - n / v * v) then (if n / v * v + v ≤ 1099511627776 then (n / v * v + v, 0) else (0, 6)) else (n / v * v, 0)) else (0, 8)) else (0, e)
theorem rangeB_in {n : Int} (h : 0 ≤ n) (h2 : n ≤ 1099511627776) : rangeB n = true := by simp [rangeB, h, h2]
theorem rangeB_big {n : Int} (h2 : ¬ n ≤ 1099511627776) : rangeB n = false := by simp [rangeB, h2]
theorem div_bd {n v : Int} (h : 0 ≤ n) (hv : 1 ≤ v) : 0 ≤ n / v ∧ n / v ≤ n ∧ 0 ≤ n / v * v ∧ n / v * v ≤ n ∧ n - n / v * v < v := by
  have h1 := Int.ediv_nonneg h (show 0 ≤ v by omega)
  have h2 := Int.ediv_le_self v h
  have h3 := Int.mul_ediv_add_emod n v
  rw [Int.mul_comm] at h3
  have m1 := Int.emod_nonneg n (show v ≠ 0 by omega)
  have m2 := Int.emod_lt_of_pos n (show 0 < v by omega)
  have h4 := Int.mul_nonneg h1 (show 0 ≤ v by omega)
  omega
end Go.Proofs.YtmibpncmebhbjaaDoor
