/- Plain: counts that are carried: each count, with the carry into its unit, is what stays and what is carried out of it. -/
import Derived.Test.YtmibpncmebhbjaaDoorBack1
namespace Go.Proofs.YtmibpncmebhbjaaDoor
open Go Go.RowKit Go.Shelf

/-- The total of counts in units of the first of some units. -/
def hornerL : List Un → List Int → Int
  | [], _ => 0
  | [_], cs => cs.headD 0
  | _ :: u2 :: us, cs => cs.headD 0 + u2.factor * hornerL (u2 :: us) cs.tail
theorem horner_nil (us : List Un) : hornerL us [] = 0 := by
  induction us with
  | nil => rfl
  | cons u us ih =>
    cases us with
    | nil => rfl
    | cons u2 us => simp only [hornerL, List.tail_nil, ih]; simp
theorem sum_horner (us : List Un) (u : Un) (v : Int) (hv : 1 ≤ v) (cs : List Int) (s t : Int) (hfull : (yl (u :: us) v hv).length = (u :: us).length) (hl : cs.length ≤ us.length + 1) (h : sumP (yl (u :: us) v hv) cs s = some t) :
    t = s + v * u.factor * hornerL (u :: us) cs := by
  induction us generalizing u v cs s with
  | nil =>
    by_cases h1 : 1 ≤ u.factor ∧ u.factor ≤ 60
    · by_cases h2 : v * u.factor ≤ 1099511627776
      · rw [yl_go h1 h2] at h
        match cs, hl with
        | [], _ => simp only [sumP, Option.some.injEq] at h; simp [hornerL, h]
        | [c], _ =>
          simp only [sumP, yl] at h
          split at h
          · cases h
          · simp only [Option.some.injEq] at h
            simp only [hornerL, List.headD_cons]
            rw [← h, Int.mul_comm c]
      · rw [yl_big h2] at hfull; simp at hfull
    · rw [yl_out h1] at hfull; simp at hfull
  | cons u2 us ih =>
    by_cases h1 : 1 ≤ u.factor ∧ u.factor ≤ 60
    · by_cases h2 : v * u.factor ≤ 1099511627776
      · rw [yl_go h1 h2] at h hfull
        cases cs with
        | nil => simp only [sumP, Option.some.injEq] at h; rw [horner_nil]; simp [h]
        | cons c cs =>
          simp only [sumP] at h
          split at h
          · cases h
          · have := ih u2 (v * u.factor) (mul_pos1 hv h1.1) cs (s + c * (v * u.factor)) (by simpa using hfull) (by simp at hl ⊢; omega) h
            simp only [hornerL, List.headD_cons, List.tail_cons]
            rw [this, Int.mul_add, Int.mul_comm c, ← Int.mul_assoc (v * u.factor) u2.factor]
            omega
      · rw [yl_big h2] at hfull; simp at hfull
    · rw [yl_out h1] at hfull; simp at hfull
/-- What stays at each unit. -/
def keepL : List Un → List Int → Int → List Int
  | [], _, _ => []
  | [_], cs, c => [c + cs.headD 0]
  | _ :: u2 :: us, cs, c => (c + cs.headD 0) % u2.factor :: keepL (u2 :: us) cs.tail ((c + cs.headD 0) / u2.factor)
theorem split_keep (us : List Un) (cs : List Int) (c : Int) (hf : ∀ u ∈ us, 1 ≤ u.factor) : splitF us (c + hornerL us cs) = keepL us cs c := by
  induction us generalizing cs c with
  | nil => rfl
  | cons u us ih =>
    cases us with
    | nil => rfl
    | cons u2 us =>
      have hf2 := hf u2 (by simp)
      simp only [keepL, hornerL]
      rw [show ∀ q, splitF (u :: u2 :: us) q = q % u2.factor :: splitF (u2 :: us) (q / u2.factor) from fun _ => rfl]
      rw [← Int.add_assoc, Int.add_mul_emod_self_left, Int.add_mul_ediv_left _ _ (by omega)]
      rw [ih cs.tail _ (fun x hx => hf x (by simp at hx ⊢; right; exact hx))]
theorem keep_at (us : List Un) (cs : List Int) (c : Int) (i : Nat) (hi : i < us.length) :
    (keepL us cs c)[i]? = some (match us[i + 1]? with
      | some u => ((if i = 0 then c else (carryL us cs c).getD (i - 1) 0) + cntAt cs i) % u.factor
      | none => (if i = 0 then c else (carryL us cs c).getD (i - 1) 0) + cntAt cs i) := by
  induction us generalizing cs c i with
  | nil => simp at hi
  | cons u us ih =>
    cases us with
    | nil =>
      have : i = 0 := by simpa using hi
      subst this
      simp [keepL, cntAt, List.getD, List.headD_eq_head?_getD, List.head?_eq_getElem?]
    | cons u2 us =>
      cases i with
      | zero => simp [keepL, cntAt, List.getD, List.headD_eq_head?_getD, List.head?_eq_getElem?]
      | succ i =>
        simp only [keepL, List.getElem?_cons_succ]
        rw [ih cs.tail _ i (by simpa using hi)]
        have e1 : cntAt cs.tail i = cntAt cs (i + 1) := by cases cs <;> simp [cntAt, List.getD]
        rw [e1]
        have e2 : (if i = 0 then (c + cs.headD 0) / u2.factor else (carryL (u2 :: us) cs.tail ((c + cs.headD 0) / u2.factor)).getD (i - 1) 0) = (if i + 1 = 0 then c else (carryL (u :: u2 :: us) cs c).getD (i + 1 - 1) 0) := by
          cases i with
          | zero => simp [carryL]
          | succ i => simp [carryL]
        rw [e2]
        rfl
theorem carry_at (us : List Un) (cs : List Int) (c : Int) (i : Nat) (u : Un) (hu : us[i + 1]? = some u) : (carryL us cs c)[i]? = some (((if i = 0 then c else (carryL us cs c).getD (i - 1) 0) + cntAt cs i) / u.factor) := by
  induction us generalizing cs c i with
  | nil => simp at hu
  | cons u0 us ih =>
    cases us with
    | nil => simp at hu
    | cons u2 us =>
      cases i with
      | zero =>
        simp only [Nat.zero_add, List.getElem?_cons_succ, List.getElem?_cons_zero, Option.some.injEq] at hu
        subst hu
        simp [carryL, cntAt, List.getD, List.headD_eq_head?_getD, List.head?_eq_getElem?]
      | succ i =>
        simp only [List.getElem?_cons_succ] at hu
        simp only [carryL, List.getElem?_cons_succ]
        rw [ih cs.tail _ i (by simpa using hu)]
        have e1 : cntAt cs.tail i = cntAt cs (i + 1) := by cases cs <;> simp [cntAt, List.getD]
        rw [e1]
        have e2 : (if i = 0 then (c + cs.headD 0) / u2.factor else (carryL (u2 :: us) cs.tail ((c + cs.headD 0) / u2.factor)).getD (i - 1) 0) = (if i + 1 = 0 then c else (carryL (u0 :: u2 :: us) cs c).getD (i + 1 - 1) 0) := by
          cases i with
          | zero => simp [carryL]
          | succ i => simp [carryL]
        rw [e2]
        rfl
/-- The carry into a unit. -/
def intoAt (L : List Int) (i : Nat) : Int := if i = 0 then 0 else L.getD (i - 1) 0
/-- What the statement asks at each unit. -/
theorem carry_keeps {nm : ByteArray} {us : List Un} {cs : List Int} (h : (totalF nm us cs).2 = 0) (i : Nat) (hi : i < us.length) :
    ∃ x, (splitF us (totalF nm us cs).1)[i]? = some x ∧
      (∀ u, us[i + 1]? = some u → ∃ y, (carryL us cs 0)[i]? = some y ∧ intoAt (carryL us cs 0) i + cntAt cs i = x + y * u.factor) ∧
      (us[i + 1]? = none → intoAt (carryL us cs 0) i + cntAt cs i = x) := by
  obtain ⟨hc, hl, _, hs, _, _⟩ := total_ok h
  obtain ⟨u, us', e, hf1⟩ := check_first hc
  have hfu := checkB_full hc
  have hf := (checkF_zero hc).1
  have hh : (totalF nm us cs).1 = hornerL us cs := by
    subst e
    have := sum_horner us' u 1 (by decide) cs 0 _ hfu (by simpa using hl) hs
    rw [this, hf1]
    simp
  have hk := split_keep us cs 0 (fun u hu => (hf u hu).1)
  rw [Int.zero_add, ← hh] at hk
  have ha := keep_at us cs 0 i hi
  rw [← hk] at ha
  refine ⟨_, ha, fun u hu => ?_, fun hu => ?_⟩
  · refine ⟨_, carry_at us cs 0 i u hu, ?_⟩
    rw [hu]
    simp only
    have := Int.mul_ediv_add_emod (intoAt (carryL us cs 0) i + cntAt cs i) u.factor
    rw [Int.mul_comm] at this
    unfold intoAt at this ⊢
    omega
  · rw [hu]
    rfl
end Go.Proofs.YtmibpncmebhbjaaDoor
