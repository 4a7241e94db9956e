/- Plain: the total of counts. -/
import Derived.Test.YtmibpncmebhbjaaDoorLad1
namespace Go.Proofs.YtmibpncmebhbjaaDoor
open Go Go.RowKit Go.Shelf

/-- What units with their values make of counts, from a sum on; none: too big. -/
def sumP : List UV → List Int → Int → Option Int
  | [], _, s => some s
  | _ :: _, [], s => some s
  | x :: l, c :: cs, s => if (1099511627776 - s) / x.v < c then none else sumP l cs (s + c * x.v)
theorem sumP_append (pre : List UV) (x : UV) (cs : List Int) (s : Int) (h : pre.length < cs.length) :
    sumP (pre ++ [x]) cs s = (sumP pre cs s).bind fun t => if (1099511627776 - t) / x.v < cs[pre.length] then none else some (t + cs[pre.length] * x.v) := by
  induction pre generalizing cs s with
  | nil =>
    cases cs with
    | nil => simp at h
    | cons c cs => simp [sumP]
  | cons y l ih =>
    cases cs with
    | nil => simp at h
    | cons c cs =>
      simp only [List.cons_append, sumP]
      split
      · rfl
      · rw [ih cs _ (by simpa using h)]; rfl
theorem sumP_stop (pre t : List UV) (cs : List Int) (s : Int) (h : cs.length ≤ pre.length) : sumP (pre ++ t) cs s = sumP pre cs s := by
  induction pre generalizing cs s with
  | nil =>
    have : cs = [] := List.eq_nil_of_length_eq_zero (by simpa using h)
    subst this
    cases t <;> rfl
  | cons y l ih =>
    cases cs with
    | nil => rfl
    | cons c cs =>
      simp only [List.cons_append, sumP]
      split
      · rfl
      · exact ih cs _ (by simpa using h)
theorem sumP_none (pre t : List UV) (cs : List Int) (s : Int) (h : sumP pre cs s = none) : sumP (pre ++ t) cs s = none := by
  induction pre generalizing cs s with
  | nil => simp [sumP] at h
  | cons y l ih =>
    cases cs with
    | nil => simp [sumP] at h
    | cons c cs =>
      simp only [List.cons_append, sumP] at h ⊢
      split
      · rfl
      · next hc => rw [if_neg hc] at h; exact ih cs _ h
theorem sum_step {s c v : Int} (h0 : 0 ≤ s) (h1 : s ≤ 1099511627776) (hc : 0 ≤ c) (hv : 1 ≤ v) (h : ¬ (1099511627776 - s) / v < c) : 0 ≤ c * v ∧ c * v ≤ 1099511627776 ∧ 0 ≤ s + c * v ∧ s + c * v ≤ 1099511627776 ∧ c ≤ 1099511627776 := by
  have h2 : c ≤ (1099511627776 - s) / v := by omega
  have h3 : c * v ≤ 1099511627776 - s := Int.le_trans (Int.mul_le_mul_of_nonneg_right h2 (by omega)) (Int.ediv_mul_le _ (by omega))
  have h4 := Int.mul_nonneg hc (show 0 ≤ v by omega)
  have h5 : c * 1 ≤ c * v := Int.mul_le_mul_of_nonneg_left hv hc
  omega
theorem sumP_bd (pre : List UV) (cs : List Int) (s t : Int) (hc : ∀ c ∈ cs, 0 ≤ c) (h0 : 0 ≤ s) (h1 : s ≤ 1099511627776) (h : sumP pre cs s = some t) : 0 ≤ t ∧ t ≤ 1099511627776 := by
  induction pre generalizing cs s with
  | nil => simp only [sumP, Option.some.injEq] at h; omega
  | cons y l ih =>
    cases cs with
    | nil => simp only [sumP, Option.some.injEq] at h; omega
    | cons c cs =>
      simp only [sumP] at h
      split at h
      · cases h
      · next hn =>
        have := sum_step h0 h1 (hc c (by simp)) y.h2.1 hn
        exact ih cs _ (fun x hx => hc x (by simp [hx])) this.2.2.1 this.2.2.2.1 h
def negB (cs : List Int) : Bool := cs.any fun c => decide (c < 0)
def totalE (nm : ByteArray) (us : List Un) (cs : List Int) : Int := firstF [checkF nm us, needF (decide (cs.length ≤ us.length)) 2]
def totalF (nm : ByteArray) (us : List Un) (cs : List Int) : Int × Int :=
  if totalE nm us cs = 0 then (if negB cs then (0, 8) else match sumP (yl us 1 (by decide)) cs 0 with | some s => (s, 0) | none => (0, 6)) else (0, totalE nm us cs)
theorem negB_yes {cs : List Int} {k : Nat} (hk : k < cs.length) (h : cs[k] < 0) : negB cs = true := List.any_eq_true.2 ⟨cs[k], List.getElem_mem _, by simpa using h⟩
theorem negB_no {cs : List Int} (h : ∀ j (hj : j < cs.length), 0 ≤ cs[j]) : negB cs = false := by
  refine List.any_eq_false.2 fun x hx => ?_
  obtain ⟨j, hj, rfl⟩ := List.getElem_of_mem hx
  have := h j hj
  simp; omega
theorem negB_all {cs : List Int} (h : negB cs = false) : ∀ c ∈ cs, 0 ≤ c := by
  intro c hc
  have := List.any_eq_false.1 h c hc
  simp at this; omega
theorem totalE_zero {nm : ByteArray} {us : List Un} {cs : List Int} (h : totalE nm us cs = 0) : checkF nm us = 0 ∧ cs.length ≤ us.length := by
  unfold totalE at h
  by_cases h1 : checkF nm us = 0
  · refine ⟨h1, ?_⟩
    by_cases h2 : cs.length ≤ us.length
    · exact h2
    · simp [firstF, h1, needF, h2] at h
  · simp [firstF, h1] at h
theorem totalE_good {nm : ByteArray} {us : List Un} {cs : List Int} (h1 : checkF nm us = 0) (h2 : cs.length ≤ us.length) : totalE nm us cs = 0 := by rw [totalE, h1, decide_eq_true h2]; rfl
theorem totalE_arg {nm : ByteArray} {us : List Un} {cs : List Int} (h1 : checkF nm us = 0) (h2 : ¬ cs.length ≤ us.length) : totalE nm us cs = 2 := by rw [totalE, h1, decide_eq_false h2]; rfl
theorem totalE_check {nm : ByteArray} {us : List Un} {cs : List Int} (h1 : ¬ checkF nm us = 0) : totalE nm us cs = checkF nm us := by simp [totalE, firstF, h1]
theorem totalF_err {nm : ByteArray} {us : List Un} {cs : List Int} (h : ¬ totalE nm us cs = 0) : totalF nm us cs = (0, totalE nm us cs) := if_neg h
theorem totalF_neg {nm : ByteArray} {us : List Un} {cs : List Int} (h : totalE nm us cs = 0) (h2 : negB cs = true) : totalF nm us cs = (0, 8) := by rw [totalF, if_pos h, h2]; rfl
theorem totalF_sum {nm : ByteArray} {us : List Un} {cs : List Int} (h : totalE nm us cs = 0) (h2 : negB cs = false) : totalF nm us cs = match sumP (yl us 1 (by decide)) cs 0 with | some s => (s, 0) | none => (0, 6) := by rw [totalF, if_pos h, h2]; rfl
end Go.Proofs.YtmibpncmebhbjaaDoor
