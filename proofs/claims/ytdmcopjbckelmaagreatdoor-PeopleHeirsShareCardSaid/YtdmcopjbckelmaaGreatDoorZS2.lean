/- Plain: shares of heirs add up to 1. No condition. PeopleSharesSum: the walk. Conditions: those stated. -/
import Derived.Test.YtdmcopjbckelmaaGreatDoorZE
import Derived.Test.YtdmcopjbckelmaaGreatDoorZF1
import Derived.Test.YtdmcopjbckelmaaGreatDoorZH
import Derived.BigQuiet
namespace Go.Proofs.YtdmcopjbckelmaaGreatDoor
section
open Go Go.RowKit Go.Shelf

theorem div_lowest {N D : Int} (h : isR N D = true) : (rat N D).num = N ∧ ((rat N D).den : Int) = D := by
  obtain ⟨h1, h2, h3, h4, h5⟩ := isR_iff.1 h
  obtain ⟨d, rfl⟩ := Int.eq_ofNat_of_zero_le (show 0 ≤ D by omega)
  have hd : 1 ≤ d := by omega
  rw [Int.natAbs_natCast] at h5
  unfold rat
  by_cases hN : 0 ≤ N
  · obtain ⟨a, rfl⟩ := Int.eq_ofNat_of_zero_le hN
    rw [Int.natAbs_natCast] at h5
    have e : (((a : Nat) : Int) : Rat) / (((d : Nat) : Int) : Rat) = (a : Rat) / (d : Rat) := by norm_cast
    rw [e]
    obtain ⟨e1, e2⟩ := div_num_den hd h5
    exact ⟨e1, by rw [e2]⟩
  · obtain ⟨a, ha⟩ := Int.eq_ofNat_of_zero_le (show 0 ≤ -N by omega)
    have hNa : N = -(a : Int) := by omega
    subst hNa
    rw [Int.natAbs_neg, Int.natAbs_natCast] at h5
    have e : ((-(a : Int) : Int) : Rat) / (((d : Nat) : Int) : Rat) = -((a : Rat) / (d : Rat)) := by
      have e1 : ((-(a : Int) : Int) : Rat) = -(a : Rat) := by norm_cast
      have e2 : (((d : Nat) : Int) : Rat) = (d : Rat) := by norm_cast
      rw [e1, e2, Rat.div_def, Rat.neg_mul, ← Rat.div_def]
    rw [e]
    obtain ⟨e1, e2⟩ := div_num_den hd h5
    exact ⟨by rw [Rat.neg_num, e1], by rw [Rat.neg_den, e2]⟩
theorem cmp_lt {N D M E : Int} (h : isR N D = true) (k : isR M E = true) : N * E < M * D ↔ rat N D < rat M E := by
  obtain ⟨a1, a2⟩ := div_lowest h
  obtain ⟨b1, b2⟩ := div_lowest k
  rw [Rat.lt_iff, a1, a2, b1, b2]
/-- Cmp as the order of the ratios. -/
theorem cmpI_rat {N D M E : Int} (h : isR N D = true) (k : isR M E = true) : cmpI N D M E = if rat N D < rat M E then -1 else if rat M E < rat N D then 1 else 0 := by
  unfold cmpI
  simp only [cmp_lt h k, cmp_lt k h]
theorem fit_isR {q : Rat} (h : (fit q).e = 0) : isR (fit q).n (fit q).d = true ∧ rat (fit q).n (fit q).d = q := by
  by_cases h' : q.num.natAbs ≤ 1099511627776 ∧ q.den ≤ 1048576
  · rw [fit_yes h'.1 h'.2]
    have hd := q.den_pos
    refine ⟨isR_iff.2 ⟨by simp only; omega, by simp only; omega, by simp only; omega, by simp only; omega, ?_⟩, ?_⟩
    · simp only [Int.natAbs_natCast]; exact q.reduced
    · simp only [rat]
      rw [← Rat.divInt_eq_div, Rat.num_divInt_den]
  · rw [fit_no h'] at h; simp at h
theorem fit_rat {N D : Int} (h : isR N D = true) : fit (rat N D) = ⟨N, D, 0⟩ := by
  obtain ⟨a1, a2⟩ := div_lowest h
  obtain ⟨h1, h2, h3, h4, _⟩ := isR_iff.1 h
  rw [fit_yes (by rw [a1]; omega) (by omega), a1, a2]
theorem rat_inj {N D M E : Int} (h : isR N D = true) (k : isR M E = true) (e : rat N D = rat M E) : N = M ∧ D = E := by
  obtain ⟨a1, a2⟩ := div_lowest h
  obtain ⟨b1, b2⟩ := div_lowest k
  rw [e] at a1 a2
  exact ⟨by omega, by omega⟩

/-- A share of so many parts. -/
def qn (k p : Nat) : RR := fit ((k : Rat) / (p : Rat))
theorem qn_red (k p : Nat) (hp : 1 ≤ p) : ((k : Rat) / (p : Rat)).num = (k / Nat.gcd k p : Nat) ∧ ((k : Rat) / (p : Rat)).den = p / Nat.gcd k p := by
  have hg : 0 < Nat.gcd k p := Nat.gcd_pos_of_pos_right _ hp
  obtain ⟨a, ha⟩ := Nat.gcd_dvd_left k p
  obtain ⟨b, hb⟩ := Nat.gcd_dvd_right k p
  have hb1 : 1 ≤ b := by
    rcases Nat.eq_zero_or_pos b with e | e
    · rw [e, Nat.mul_zero] at hb; omega
    · exact e
  have hc : Nat.Coprime a b := by
    have := Nat.coprime_div_gcd_div_gcd (m := k) (n := p) hg
    have e1 : k / Nat.gcd k p = a := by
      conv => lhs; lhs; rw [ha]
      exact Nat.mul_div_cancel_left _ hg
    have e2 : p / Nat.gcd k p = b := by
      conv => lhs; lhs; rw [hb]
      exact Nat.mul_div_cancel_left _ hg
    rw [e1, e2] at this
    exact this
  have ek : k / Nat.gcd k p = a := by
    conv => lhs; lhs; rw [ha]
    exact Nat.mul_div_cancel_left _ hg
  have ep : p / Nat.gcd k p = b := by
    conv => lhs; lhs; rw [hb]
    exact Nat.mul_div_cancel_left _ hg
  have e : (k : Rat) / (p : Rat) = (a : Rat) / (b : Rat) := by
    have q1 : (k : Rat) = ((Nat.gcd k p : Nat) : Rat) * (a : Rat) := by exact_mod_cast ha
    have q2 : (p : Rat) = ((Nat.gcd k p : Nat) : Rat) * (b : Rat) := by exact_mod_cast hb
    have g0 : ((Nat.gcd k p : Nat) : Rat) ≠ 0 := by
      have : (Nat.gcd k p) ≠ 0 := by omega
      exact_mod_cast this
    have b0 : (b : Rat) ≠ 0 := by
      have : b ≠ 0 := by omega
      exact_mod_cast this
    rw [q1, q2]
    grind
  rw [e, ek, ep]
  exact div_num_den hb1 hc
theorem qn_ok {k p : Nat} (hk : k ≤ 1000) (hp : 1 ≤ p) (hp2 : p ≤ 1000) : (qn k p).e = 0 := by
  obtain ⟨h1, h2⟩ := qn_red k p hp
  have a1 := Nat.div_le_self k (Nat.gcd k p)
  have a2 := Nat.div_le_self p (Nat.gcd k p)
  unfold qn
  rw [fit_yes (by rw [h1]; simp only [Int.natAbs_natCast]; omega) (by rw [h2]; omega)]
theorem qn_isR {k p : Nat} (hk : k ≤ 1000) (hp : 1 ≤ p) (hp2 : p ≤ 1000) : isR (qn k p).n (qn k p).d = true ∧ rat (qn k p).n (qn k p).d = (k : Rat) / (p : Rat) := fit_isR (qn_ok hk hp hp2)
theorem qn_Bd {k p : Nat} (hk : k ≤ 1000) (hp : 1 ≤ p) (hp2 : p ≤ 1000) : Bd (qn k p).n ∧ Bd (qn k p).d := by
  obtain ⟨h1, h2, h3, h4, _⟩ := isR_iff.1 (qn_isR hk hp hp2).1
  unfold Bd
  omega
theorem ratioF_qn (k p : Nat) (hp : 1 ≤ p) : ratioF (k : Int) (p : Int) = qn k p := by
  unfold ratioF
  rw [if_neg (by omega)]
  rfl
theorem qn_add {k m p : Nat} (hk : k ≤ 1000) (hm : m ≤ 1000) (hp : 1 ≤ p) (hp2 : p ≤ 1000) : opF (qn k p).n (qn k p).d (qn m p).n (qn m p).d (fit (rat (qn k p).n (qn k p).d + rat (qn m p).n (qn m p).d)) = qn (k + m) p := by
  obtain ⟨a1, a2⟩ := qn_isR hk hp hp2
  obtain ⟨b1, b2⟩ := qn_isR hm hp hp2
  rw [opF_yes a1 b1, a2, b2]
  unfold qn
  congr 1
  have : ((k + m : Nat) : Rat) = (k : Rat) + (m : Rat) := by norm_cast
  rw [this]
  grind
theorem qn_self {p : Nat} (hp : 1 ≤ p) : qn p p = ⟨1, 1, 0⟩ := by
  unfold qn
  have : (p : Rat) ≠ 0 := by
    have : p ≠ 0 := by omega
    exact_mod_cast this
  rw [show (p : Rat) / (p : Rat) = 1 by grind]
  rfl
theorem qn_zero (p : Nat) : qn 0 p = ⟨0, 1, 0⟩ := by
  unfold qn
  rw [show ((0 : Nat) : Rat) / (p : Rat) = 0 by grind]
  exact fit_zero
theorem qn_twice {p : Nat} (hp : 1 ≤ p) (hp2 : p ≤ 1000) : opF (qn 1 p).n (qn 1 p).d 2 1 (mulR (qn 1 p).n (qn 1 p).d 2 1) = qn 2 p := by
  obtain ⟨a1, a2⟩ := qn_isR (k := 1) (by decide) hp hp2
  rw [opF_yes a1 (by decide)]
  unfold mulR
  rw [a2]
  unfold qn
  congr 1
  unfold rat
  grind
theorem qn_cmp {k m p : Nat} (hk : k ≤ 1000) (hm : m ≤ 1000) (hp : 1 ≤ p) (hp2 : p ≤ 1000) : cmpE (qn k p).n (qn k p).d (qn m p).n (qn m p).d = 0 ∧ (cmpV (qn k p).n (qn k p).d (qn m p).n (qn m p).d < 0 ↔ k < m) := by
  obtain ⟨a1, a2⟩ := qn_isR hk hp hp2
  obtain ⟨b1, b2⟩ := qn_isR hm hp hp2
  have hp0 : (0 : Rat) < (p : Rat) := by
    have : 0 < p := hp
    exact_mod_cast this
  have key : ∀ x y : Nat, (x : Rat) / (p : Rat) < (y : Rat) / (p : Rat) ↔ x < y := by
    intro x y
    rw [Rat.div_lt_iff hp0, show (y : Rat) / (p : Rat) * (p : Rat) = (y : Rat) by grind]
    norm_cast
  refine ⟨by unfold cmpE; rw [a1, b1]; rfl, ?_⟩
  unfold cmpV
  rw [a1, b1]
  simp only [Bool.and_self, if_true]
  rw [cmpI_rat a1 b1, a2, b2]
  by_cases h : k < m
  · rw [if_pos ((key k m).2 h)]
    exact ⟨fun _ => h, fun _ => by decide⟩
  · rw [if_neg (fun q => h ((key k m).1 q))]
    refine ⟨fun q => ?_, fun q => absurd q h⟩
    split at q <;> omega
theorem qn_inj {k m p : Nat} (hk : k ≤ 1000) (hm : m ≤ 1000) (hp : 1 ≤ p) (hp2 : p ≤ 1000) (h1 : (qn k p).n = (qn m p).n) (h2 : (qn k p).d = (qn m p).d) : k = m := by
  have a := (qn_isR hk hp hp2).2
  have b := (qn_isR hm hp hp2).2
  rw [h1, h2, b] at a
  have p0 : (p : Rat) ≠ 0 := by
    have : p ≠ 0 := by omega
    exact_mod_cast this
  have : (m : Rat) = (k : Rat) := by grind
  exact_mod_cast this.symm
/-- How many parts an heir has. -/
def mulN (fi s : ByteArray) : Nat := if s = fi then 2 else 1
theorem mulN_le (fi s : ByteArray) : 1 ≤ mulN fi s ∧ mulN fi s ≤ 2 := by unfold mulN; split <;> omega
theorem shareR_qn (fi s : ByteArray) (p : Nat) (hp : 1 ≤ p) : shareR fi p s = qn (mulN fi s) p := by
  unfold shareR mulN
  rw [← ratioF_qn _ _ hp]
  split <;> rfl
def sumN (fi : ByteArray) : List ByteArray → Nat
  | [] => 0
  | s :: l => mulN fi s + sumN fi l
theorem sumN_append (fi : ByteArray) (l m : List ByteArray) : sumN fi (l ++ m) = sumN fi l + sumN fi m := by
  induction l with
  | nil => simp [sumN]
  | cons s l ih => simp only [List.cons_append, sumN, ih]; omega
theorem sumN_le (fi : ByteArray) (l : List ByteArray) : sumN fi l ≤ 2 * l.length := by
  induction l with
  | nil => simp [sumN]
  | cons s l ih => have := mulN_le fi s; simp only [sumN, List.length_cons]; omega
theorem sumN_no {fi : ByteArray} {l : List ByteArray} (h : ¬ fi ∈ l) : sumN fi l = l.length := by
  induction l with
  | nil => rfl
  | cons s l ih =>
    simp only [List.mem_cons, not_or] at h
    simp only [sumN, List.length_cons, ih h.2, mulN, if_neg (Ne.symm h.1)]
    omega
theorem sumN_one {fi : ByteArray} {l : List ByteArray} (hn : l.Nodup) (h : fi ∈ l) : sumN fi l = l.length + 1 := by
  induction l with
  | nil => cases h
  | cons s l ih =>
    rw [List.nodup_cons] at hn
    by_cases e : s = fi
    · subst e
      simp only [sumN, List.length_cons, sumN_no hn.1, mulN, if_true]
      omega
    · have hm : fi ∈ l := by simpa [Ne.symm e] using h
      simp only [sumN, List.length_cons, ih hn.2 hm, mulN, if_neg e]
      omega
/-- The number of heirs that have two parts. -/
def twoN (fi : ByteArray) (l : List ByteArray) : Nat := (l.filter fun s => decide (s = fi)).length
theorem twoN_le {fi : ByteArray} {l : List ByteArray} (hn : l.Nodup) : twoN fi l ≤ 1 := by
  induction l with
  | nil => simp [twoN]
  | cons s l ih =>
    rw [List.nodup_cons] at hn
    unfold twoN
    rw [List.filter_cons]
    by_cases e : s = fi
    · subst e
      have : l.filter (fun t => decide (t = s)) = [] := by
        rw [List.filter_eq_nil_iff]
        intro t ht hq
        rw [decide_eq_true_eq] at hq
        exact hn.1 (hq ▸ ht)
      rw [this]
      simp
    · rw [decide_eq_false e]
      exact ih hn.2
/-- The least of the shares so far. -/
def leastN (fi : ByteArray) : List ByteArray → Nat → Nat
  | [], m => m
  | s :: l, m => leastN fi l (if mulN fi s < m then mulN fi s else m)
theorem leastN_snoc (fi : ByteArray) (l : List ByteArray) (s : ByteArray) (m : Nat) : leastN fi (l ++ [s]) m = if mulN fi s < leastN fi l m then mulN fi s else leastN fi l m := by
  induction l generalizing m with
  | nil => rfl
  | cons t l ih => exact ih _
theorem leastN_range (fi : ByteArray) (l : List ByteArray) : ∀ m, 1 ≤ m → 1 ≤ leastN fi l m ∧ leastN fi l m ≤ m := by
  induction l with
  | nil => intro m h; exact ⟨h, Nat.le_refl _⟩
  | cons t l ih =>
    intro m h
    have := mulN_le fi t
    have := ih (if mulN fi t < m then mulN fi t else m) (by split <;> omega)
    refine ⟨this.1, Nat.le_trans this.2 ?_⟩
    split <;> omega
theorem leastN_one {fi : ByteArray} {l : List ByteArray} {s : ByteArray} (hs : s ∈ l) (hne : s ≠ fi) : ∀ m, 1 ≤ m → leastN fi l m = 1 := by
  induction l with
  | nil => cases hs
  | cons t l ih =>
    intro m h
    have ht := mulN_le fi t
    rcases List.mem_cons.1 hs with rfl | hs
    · have e : mulN fi s = 1 := if_neg hne
      have := leastN_range fi l (if mulN fi s < m then mulN fi s else m) (by split <;> omega)
      have h2 : (if mulN fi s < m then mulN fi s else m) ≤ 1 := by split <;> omega
      show leastN fi l (if mulN fi s < m then mulN fi s else m) = 1
      omega
    · exact ih hs _ (by split <;> omega)
theorem elderF_sub {D : Mat} {ps hs : List ByteArray} {s : ByteArray} (h : s ∈ elderF D ps hs hs) : s ∈ hs := (List.mem_filter.1 h).1
/-- What is true of the heirs of a person. -/
theorem heirs_law {D : Mat} {ps hs : List ByteArray} (hn : hs.Nodup) (hne : ¬ (⟨#[]⟩ : ByteArray) ∈ hs) (h0 : 0 < hs.length) (hm : hs.length ≤ 900) :
    ∃ fi p, fi = firstF hs (elderF D ps hs hs) ∧ p = partsF hs (elderF D ps hs hs) ∧ 1 ≤ p ∧ p ≤ 1000 ∧ sumN fi hs = p ∧ twoN fi hs ≤ 1 ∧ ∀ m, 1 ≤ m → m ≤ 2 → leastN fi hs m = 1 := by
  refine ⟨_, _, rfl, rfl, ?_⟩
  have hfew := twoN_le (fi := firstF hs (elderF D ps hs hs)) hn
  have hle : ∀ fi : ByteArray, (1 < hs.length ∨ ¬ fi ∈ hs) → ∀ m, 1 ≤ m → m ≤ 2 → leastN fi hs m = 1 := by
    intro fi hq m h1 h2
    match hs, h0, hn, hq with
    | [s], _, _, hq =>
      have : s ≠ fi := by rintro rfl; simp at hq
      exact leastN_one (l := [s]) (by simp) this m h1
    | s :: t :: l, _, hn, _ =>
      by_cases e : s = fi
      · have : t ≠ fi := by
          rintro rfl
          rw [List.nodup_cons] at hn
          exact hn.1 (by simp [e])
        exact leastN_one (by simp) this m h1
      · exact leastN_one (by simp) e m h1
  by_cases h : 1 < hs.length ∧ (elderF D ps hs hs).length = 1
  · obtain ⟨s, hs1⟩ := List.length_eq_one_iff.1 h.2
    have hm1 : s ∈ hs := elderF_sub (D := D) (ps := ps) (by rw [hs1]; simp)
    have e1 : firstF hs (elderF D ps hs hs) = s := by unfold firstF; rw [if_pos h, hs1]; rfl
    have e2 : partsF hs (elderF D ps hs hs) = hs.length + 1 := if_pos h
    rw [e1] at hfew
    rw [e1, e2]
    exact ⟨by omega, by omega, sumN_one hn hm1, hfew, hle s (.inl h.1)⟩
  · have e1 : firstF hs (elderF D ps hs hs) = ⟨#[]⟩ := if_neg h
    have e2 : partsF hs (elderF D ps hs hs) = hs.length := if_neg h
    rw [e1] at hfew
    rw [e1, e2]
    exact ⟨by omega, by omega, sumN_no hne, hfew, hle _ (.inr hne)⟩
end

section
open Go Go.RowKit Go.Shelf
attribute [local go_sem] Oper.semAt_some

theorem undrew_s {V w : World} (h : Below V.drew.heap.size V.drew w) : Below V.heap.size V w := ⟨h.os, h.tape, h.output, h.size, h.block⟩
theorem sharesV_get {fi : ByteArray} {p : Nat} {l : List ByteArray} {k : Nat} (h : k < l.length) : (sharesV fi p l)[k * 3]? = some (.string l[k]) ∧ (sharesV fi p l)[k * 3 + 1]? = some (.int .i64 (shareR fi p l[k]).n) ∧ (sharesV fi p l)[k * 3 + 2]? = some (.int .i64 (shareR fi p l[k]).d) := by
  induction l generalizing k with
  | nil => simp at h
  | cons s l ih =>
    have e : sharesV fi p (s :: l) = .string s :: .int .i64 (shareR fi p s).n :: .int .i64 (shareR fi p s).d :: sharesV fi p l := rfl
    rw [e]
    cases k with
    | zero => exact ⟨rfl, rfl, rfl⟩
    | succ k =>
      have := ih (k := k) (by simpa using h)
      rw [show (k + 1) * 3 = k * 3 + 1 + 1 + 1 by omega, show k * 3 + 1 + 1 + 1 + 1 = (k * 3 + 1) + 1 + 1 + 1 by omega, show k * 3 + 1 + 1 + 1 + 2 = (k * 3 + 2) + 1 + 1 + 1 by omega]
      exact this
theorem name_some {ps : List ByteArray} (h : namesOk ps = true) : ¬ (⟨#[]⟩ : ByteArray) ∈ ps := by
  intro hm
  obtain ⟨i, hi, e⟩ := List.getElem_of_mem hm
  have := List.all_eq_true.1 h i (List.mem_range.2 hi)
  unfold okAt at this
  rw [Bool.and_eq_true, List.getD_eq_getElem?_getD, List.getElem?_eq_getElem hi, Option.getD_some, e] at this
  exact absurd this.1 (by decide)
theorem sumN_take {fi : ByteArray} {l : List ByteArray} {k : Nat} (h : k < l.length) : sumN fi (l.take (k + 1)) = sumN fi (l.take k) + mulN fi l[k] := by
  rw [List.take_succ_eq_append_getElem h, sumN_append]
  simp [sumN]
theorem leastN_take {fi : ByteArray} {l : List ByteArray} {k m : Nat} (h : k < l.length) : leastN fi (l.take (k + 1)) m = if mulN fi l[k] < leastN fi (l.take k) m then mulN fi l[k] else leastN fi (l.take k) m := by
  rw [List.take_succ_eq_append_getElem h, leastN_snoc]
theorem twoN_take {fi : ByteArray} {l : List ByteArray} {k : Nat} (h : k < l.length) : twoN fi (l.take (k + 1)) = twoN fi (l.take k) + if l[k] = fi then 1 else 0 := by
  rw [List.take_succ_eq_append_getElem h]
  unfold twoN
  rw [List.filter_append, List.length_append]
  by_cases e : l[k] = fi <;> simp [e]
/-- What the walk of the law needs of the shares. -/
structure Shared (fi : ByteArray) (p : Nat) (l : List ByteArray) (S L : Nat → RR) : Prop where
  s0 : S 0 = ⟨0, 1, 0⟩
  l0 : ∀ h : 0 < l.length, L 0 = shareR fi p l[0]
  bd : ∀ k (h : k < l.length), Bd (shareR fi p l[k]).n ∧ Bd (shareR fi p l[k]).d
  sb : ∀ k, k ≤ l.length → Bd (S k).n ∧ Bd (S k).d ∧ (S k).e = 0
  lb : ∀ k, k ≤ l.length → Bd (L k).n ∧ Bd (L k).d
  add : ∀ k (h : k < l.length), opF (S k).n (S k).d (shareR fi p l[k]).n (shareR fi p l[k]).d (fit (rat (S k).n (S k).d + rat (shareR fi p l[k]).n (shareR fi p l[k]).d)) = S (k + 1)
  cmp : ∀ k (h : k < l.length), cmpE (shareR fi p l[k]).n (shareR fi p l[k]).d (L k).n (L k).d = 0 ∧ (L (k + 1)) = if cmpV (shareR fi p l[k]).n (shareR fi p l[k]).d (L k).n (L k).d < 0 then shareR fi p l[k] else L k
  one : S l.length = ⟨1, 1, 0⟩
  mul : opF (L l.length).n (L l.length).d 2 1 (mulR (L l.length).n (L l.length).d 2 1) = qn 2 p ∧ (qn 2 p).e = 0
  same : ∀ k (h : k < l.length), l[k] ≠ fi → shareR fi p l[k] = L l.length
  twice : ∀ k (h : k < l.length), l[k] = fi → shareR fi p l[k] = qn 2 p
  apart : ¬ ((qn 2 p).n = (L l.length).n ∧ (qn 2 p).d = (L l.length).d)
  few : twoN fi l ≤ 1
theorem shared_is {D : Mat} {ps hs : List ByteArray} (hn : hs.Nodup) (hne : ¬ (⟨#[]⟩ : ByteArray) ∈ hs) (h0 : 0 < hs.length) (hm : hs.length ≤ 400) :
    ∃ S L, Shared (firstF hs (elderF D ps hs hs)) (partsF hs (elderF D ps hs hs)) hs S L := by
  obtain ⟨fi, p, e1, e2, hp1, hp2, hsum, htwo, hleast⟩ := heirs_law (D := D) (ps := ps) hn hne h0 (by omega)
  rw [← e1, ← e2]
  have hS : ∀ k, sumN fi (hs.take k) ≤ 1000 := fun k => by
    have := sumN_le fi (hs.take k)
    have : (hs.take k).length ≤ hs.length := List.length_take_le' k hs
    omega
  have hm0 := mulN_le fi hs[0]
  have hL : ∀ k, 1 ≤ leastN fi (hs.take k) (mulN fi hs[0]) ∧ leastN fi (hs.take k) (mulN fi hs[0]) ≤ 2 := fun k => by
    have := leastN_range fi (hs.take k) (mulN fi hs[0]) hm0.1
    omega
  have hq := fun s => shareR_qn fi s p hp1
  have hml := fun s => mulN_le fi s
  have hend : leastN fi (hs.take hs.length) (mulN fi hs[0]) = 1 := by rw [List.take_length]; exact hleast _ hm0.1 hm0.2
  refine ⟨fun k => qn (sumN fi (hs.take k)) p, fun k => qn (leastN fi (hs.take k) (mulN fi hs[0])) p, ?_⟩
  constructor
  · exact qn_zero p
  · intro h
    rw [hq]
    rfl
  · intro k h
    rw [hq]
    exact qn_Bd (by have := hml hs[k]; omega) hp1 hp2
  · intro k h
    have := qn_Bd (hS k) hp1 hp2
    exact ⟨this.1, this.2, qn_ok (hS k) hp1 hp2⟩
  · intro k h
    exact qn_Bd (by have := hL k; omega) hp1 hp2
  · intro k h
    rw [hq, qn_add (hS k) (by have := hml hs[k]; omega) hp1 hp2, sumN_take h]
  · intro k h
    rw [hq]
    obtain ⟨c1, c2⟩ := qn_cmp (k := mulN fi hs[k]) (m := leastN fi (hs.take k) (mulN fi hs[0])) (by have := hml hs[k]; omega) (by have := hL k; omega) hp1 hp2
    refine ⟨c1, ?_⟩
    rw [leastN_take h]
    by_cases hlt : mulN fi hs[k] < leastN fi (hs.take k) (mulN fi hs[0])
    · rw [if_pos hlt, if_pos (c2.2 hlt)]
    · rw [if_neg hlt, if_neg (fun q => hlt (c2.1 q))]
  · rw [List.take_length, hsum]
    exact qn_self hp1
  · rw [hend]
    exact ⟨qn_twice hp1 hp2, qn_ok (by decide) hp1 hp2⟩
  · intro k h hne
    rw [hq, hend]
    unfold mulN
    rw [if_neg hne]
  · intro k h he
    rw [hq]
    unfold mulN
    rw [if_pos he]
  · rw [hend]
    rintro ⟨h1, h2⟩
    have := qn_inj (by decide) (by decide) hp1 hp2 h1 h2
    omega
  · exact htwo
end
end Go.Proofs.YtdmcopjbckelmaaGreatDoor
