/- Plain: shares of heirs add up to 1. No condition. PeopleSharesSum: the walk. Conditions: those stated. -/
import Derived.Test.YtdmcopjbckelmaaDoorZE
import Derived.Test.YtdmcopjbckelmaaDoorZF1
import Derived.Test.YtdmcopjbckelmaaDoorZH
import Derived.BigQuiet
namespace Go.Proofs.YtdmcopjbckelmaaDoor
section
open Go Go.RowKit Go.Shelf

theorem div_lowest {N D : Int} (h : isR N D = true) : (rat N D).num = N ∧ ((rat N D).den : Int) = D := by
  obtain ⟨h1, h2, h3, h4, h5⟩ := isR_iff.1 h
  obtain ⟨d, rfl⟩ := Int.eq_ofNat_of_zero_le (show 0 ≤ D by omega)
  have hd : 1 ≤ d := by omega
  rw [Int.natAbs_natCast] at h5
  unfold rat
  by_cases hN : 0 ≤ N
  · obtain ⟨a, rfl⟩ := Int.eq_ofNat_of_zero_le hN
    rw [Int.natAbs_natCast] at h5
    have e : (((a : Nat) : Int) : Rat) / (((d : Nat) : Int) : Rat) = (a : Rat) / (d : Rat) := by norm_cast
    rw [e]
    obtain ⟨e1, e2⟩ := div_num_den hd h5
    exact ⟨e1, by rw [e2]⟩
  · obtain ⟨a, ha⟩ := Int.eq_ofNat_of_zero_le (show 0 ≤ -N by omega)
    have hNa : N = -(a : Int) := by omega
    subst hNa
    rw [Int.natAbs_neg, Int.natAbs_natCast] at h5
    have e : ((-(a : Int) : Int) : Rat) / (((d : Nat) : Int) : Rat) = -((a : Rat) / (d : Rat)) := by
      have e1 : ((-(a : Int) : Int) : Rat) = -(a : Rat) := by norm_cast
      have e2 : (((d : Nat) : Int) : Rat) = (d : Rat) := by norm_cast
      rw [e1, e2, Rat.div_def, Rat.neg_mul, ← Rat.div_def]
    rw [e]
    obtain ⟨e1, e2⟩ := div_num_den hd h5
    exact ⟨by rw [Rat.neg_num, e1], by rw [Rat.neg_den, e2]⟩
theorem cmp_lt {N D M E : Int} (h : isR N D = true) (k : isR M E = true) : N * E < M * D ↔ rat N D < rat M E := by
  obtain ⟨a1, a2⟩ := div_lowest h
  obtain ⟨b1, b2⟩ := div_lowest k
  rw [Rat.lt_iff, a1, a2, b1, b2]
/-- Cmp as the order of the ratios. -/
theorem cmpI_rat {N D M E : Int} (h : isR N D = true) (k : isR M E = true) : cmpI N D M E = if rat N D < rat M E then -1 else if rat M E < rat N D then 1 else 0 := by
  unfold cmpI
  simp only [cmp_lt h k, cmp_lt k h]
theorem fit_isR {q : Rat} (h : (fit q).e = 0) : isR (fit q).n (fit q).d = true ∧ rat (fit q).n (fit q).d = q := by
  by_cases h' : q.num.natAbs ≤ 1099511627776 ∧ q.den ≤ 1048576
  · rw [fit_yes h'.1 h'.2]
    have hd := q.den_pos
    refine ⟨isR_iff.2 ⟨by simp only; omega, by simp only; omega, by simp only; omega, by simp only; omega, ?_⟩, ?_⟩
    · simp only [Int.natAbs_natCast]; exact q.reduced
    · simp only [rat]
      rw [← Rat.divInt_eq_div, Rat.num_divInt_den]
  · rw [fit_no h'] at h; simp at h
theorem fit_rat {N D : Int} (h : isR N D = true) : fit (rat N D) = ⟨N, D, 0⟩ := by
  obtain ⟨a1, a2⟩ := div_lowest h
  obtain ⟨h1, h2, h3, h4, _⟩ := isR_iff.1 h
  rw [fit_yes (by rw [a1]; omega) (by omega), a1, a2]
theorem rat_inj {N D M E : Int} (h : isR N D = true) (k : isR M E = true) (e : rat N D = rat M E) : N = M ∧ D = E := by
  obtain ⟨a1, a2⟩ := div_lowest h
  obtain ⟨b1, b2⟩ := div_lowest k
  rw [e] at a1 a2
  exact ⟨by omega, by omega⟩

/-- A share of so many parts. -/
def qn (k p : Nat) : RR := fit ((k : Rat) / (p : Rat))
theorem qn_red (k p : Nat) (hp : 1 ≤ p) : ((k : Rat) / (p : Rat)).num = (k / Nat.gcd k p : Nat) ∧ ((k : Rat) / (p : Rat)).den = p / Nat.gcd k p := by
  have hg : 0 < Nat.gcd k p := Nat.gcd_pos_of_pos_right _ hp
  obtain ⟨a, ha⟩ := Nat.gcd_dvd_left k p
  obtain ⟨b, hb⟩ := Nat.gcd_dvd_right k p
  have hb1 : 1 ≤ b := by
    rcases Nat.eq_zero_or_pos b with e | e
    · rw [e, Nat.mul_zero] at hb; omega
    · exact e
  have hc : Nat.Coprime a b := by
    have := Nat.coprime_div_gcd_div_gcd (m := k) (n := p) hg
    have e1 : k / Nat.gcd k p = a := by
      conv => lhs; lhs; rw [ha]
      exact Nat.mul_div_cancel_left _ hg
    have e2 : p / Nat.gcd k p = b := by
      conv => lhs; lhs; rw [hb]
      exact Nat.mul_div_cancel_left _ hg
    rw [e1, e2] at this
    exact this
  have ek : k / Nat.gcd k p = a := by
    conv => lhs; lhs; rw [ha]
    exact Nat.mul_div_cancel_left _ hg
  have ep : p / Nat.gcd k p = b := by
    conv => lhs; lhs; rw [hb]
    exact Nat.mul_div_cancel_left _ hg
  have e : (k : Rat) / (p : Rat) = (a : Rat) / (b : Rat) := by
    have q1 : (k : Rat) = ((Nat.gcd k p : Nat) : Rat) * (a : Rat) := by exact_mod_cast ha
    have q2 : (p : Rat) = ((Nat.gcd k p : Nat) : Rat) * (b : Rat) := by exact_mod_cast hb
    have g0 : ((Nat.gcd k p : Nat) : Rat) ≠ 0 := by
      have : (Nat.gcd k p) ≠ 0 := by omega
      exact_mod_cast this
    have b0 : (b : Rat) ≠ 0 := by
      have : b ≠ 0 := by omega
      exact_mod_cast this
    rw [q1, q2]
    grind
  rw [e, ek, ep]
  exact div_num_den hb1 hc
theorem qn_ok {k p : Nat} (hk : k ≤ 1000) (hp : 1 ≤ p) (hp2 : p ≤ 1000) : (qn k p).e = 0 := by
  obtain ⟨h1, h2⟩ := qn_red k p hp
  have a1 := Nat.div_le_self k (Nat.gcd k p)
  have a2 := Nat.div_le_self p (Nat.gcd k p)
  unfold qn
  rw [fit_yes (by rw [h1]; simp only [Int.natAbs_natCast]; omega) (by rw [h2]; omega)]
theorem qn_isR {k p : Nat} (hk : k ≤ 1000) (hp : 1 ≤ p) (hp2 : p ≤ 1000) : isR (qn k p).n (qn k p).d = true ∧ rat (qn k p).n (qn k p).d = (k : Rat) / (p : Rat) := fit_isR (qn_ok hk hp hp2)
theorem qn_Bd {k p : Nat} (hk : k ≤ 1000) (hp : 1 ≤ p) (hp2 : p ≤ 1000) : Bd (qn k p).n ∧ Bd (qn k p).d := by
  obtain ⟨h1, h2, h3, h4, _⟩ := isR_iff.1 (qn_isR hk hp hp2).1
  unfold Bd
  omega
theorem ratioF_qn (k p : Nat) (hp : 1 ≤ p) : ratioF (k : Int) (p : Int) = qn k p := by
  unfold ratioF
  rw [if_neg (by omega)]
  rfl
theorem qn_add {k m p : Nat} (hk : k ≤ 1000) (hm : m ≤ 1000) (hp : 1 ≤ p) (hp2 : p ≤ 1000) : opF (qn k p).n (qn k p).d (qn m p).n (qn m p).d (fit (rat (qn k p).n (qn k p).d + rat (qn m p).n (qn m p).d)) = qn (k + m) p := by
  obtain ⟨a1, a2⟩ := qn_isR hk hp hp2
  obtain ⟨b1, b2⟩ := qn_isR hm hp hp2
  rw [opF_yes a1 b1, a2, b2]
  unfold qn
  congr 1
  have : ((k + m : Nat) : Rat) = (k : Rat) + (m : Rat) := by norm_cast
  rw [this]
  grind
theorem qn_self {p : Nat} (hp : 1 ≤ p) : qn p p = ⟨1, 1, 0⟩ := by
  unfold qn
  have : (p : Rat) ≠ 0 := by
    have : p ≠ 0 := by omega
    exact_mod_cast this
  rw [show (p : Rat) / (p : Rat) = 1 by grind]
  rfl
theorem qn_zero (p : Nat) : qn 0 p = ⟨0, 1, 0⟩ := by
  unfold qn
  rw [show ((0 : Nat) : Rat) / (p : Rat) = 0 by grind]
  exact fit_zero
theorem qn_twice {p : Nat} (hp : 1 ≤ p) (hp2 : p ≤ 1000) : opF (qn 1 p).n (qn 1 p).d 2 1 (mulR (qn 1 p).n (qn 1 p).d 2 1) = qn 2 p := by
  obtain ⟨a1, a2⟩ := qn_isR (k := 1) (by decide) hp hp2
  rw [opF_yes a1 (by decide)]
  unfold mulR
  rw [a2]
  unfold qn
  congr 1
  unfold rat
  grind
theorem qn_cmp {k m p : Nat} (hk : k ≤ 1000) (hm : m ≤ 1000) (hp : 1 ≤ p) (hp2 : p ≤ 1000) : cmpE (qn k p).n (qn k p).d (qn m p).n (qn m p).d = 0 ∧ (cmpV (qn k p).n (qn k p).d (qn m p).n (qn m p).d < 0 ↔ k < m) := by
  obtain ⟨a1, a2⟩ := qn_isR hk hp hp2
  obtain ⟨b1, b2⟩ := qn_isR hm hp hp2
  have hp0 : (0 : Rat) < (p : Rat) := by
    have : 0 < p := hp
    exact_mod_cast this
  have key : ∀ x y : Nat, (x : Rat) / (p : Rat) < (y : Rat) / (p : Rat) ↔ x < y := by
    intro x y
    rw [Rat.div_lt_iff hp0, show (y : Rat) / (p : Rat) * (p : Rat) = (y : Rat) by grind]
    norm_cast
  refine ⟨by unfold cmpE; rw [a1, b1]; rfl, ?_⟩
  unfold cmpV
  rw [a1, b1]
  simp only [Bool.and_self, if_true]
  rw [cmpI_rat a1 b1, a2, b2]
  by_cases h : k < m
  · rw [if_pos ((key k m).2 h)]
    exact ⟨fun _ => h, fun _ => by decide⟩
  · rw [if_neg (fun q => h ((key k m).1 q))]
    refine ⟨fun q => ?_, fun q => absurd q h⟩
    split at q <;> omega
theorem qn_inj {k m p : Nat} (hk : k ≤ 1000) (hm : m ≤ 1000) (hp : 1 ≤ p) (hp2 : p ≤ 1000) (h1 : (qn k p).n = (qn m p).n) (h2 : (qn k p).d = (qn m p).d) : k = m := by
  have a := (qn_isR hk hp hp2).2
  have b := (qn_isR hm hp hp2).2
  rw [h1, h2, b] at a
  have p0 : (p : Rat) ≠ 0 := by
    have : p ≠ 0 := by omega
    exact_mod_cast this
  have : (m : Rat) = (k : Rat) := by grind
  exact_mod_cast this.symm
/-- How many parts an heir has. -/
def mulN (fi s : ByteArray) : Nat := if s = fi then 2 else 1
theorem mulN_le (fi s : ByteArray) : 1 ≤ mulN fi s ∧ mulN fi s ≤ 2 := by unfold mulN; split <;> omega
theorem shareR_qn (fi s : ByteArray) (p : Nat) (hp : 1 ≤ p) : shareR fi p s = qn (mulN fi s) p := by
  unfold shareR mulN
  rw [← ratioF_qn _ _ hp]
  split <;> rfl
def sumN (fi : ByteArray) : List ByteArray → Nat
  | [] => 0
  | s :: l => mulN fi s + sumN fi l
theorem sumN_append (fi : ByteArray) (l m : List ByteArray) : sumN fi (l ++ m) = sumN fi l + sumN fi m := by
  induction l with
  | nil => simp [sumN]
  | cons s l ih => simp only [List.cons_append, sumN, ih]; omega
theorem sumN_le (fi : ByteArray) (l : List ByteArray) : sumN fi l ≤ 2 * l.length := by
  induction l with
  | nil => simp [sumN]
  | cons s l ih => have := mulN_le fi s; simp only [sumN, List.length_cons]; omega
theorem sumN_no {fi : ByteArray} {l : List ByteArray} (h : ¬ fi ∈ l) : sumN fi l = l.length := by
  induction l with
  | nil => rfl
  | cons s l ih =>
    simp only [List.mem_cons, not_or] at h
    simp only [sumN, List.length_cons, ih h.2, mulN, if_neg (Ne.symm h.1)]
    omega
theorem sumN_one {fi : ByteArray} {l : List ByteArray} (hn : l.Nodup) (h : fi ∈ l) : sumN fi l = l.length + 1 := by
  induction l with
  | nil => cases h
  | cons s l ih =>
    rw [List.nodup_cons] at hn
    by_cases e : s = fi
    · subst e
      simp only [sumN, List.length_cons, sumN_no hn.1, mulN, if_true]
      omega
    · have hm : fi ∈ l := by simpa [Ne.symm e] using h
      simp only [sumN, List.length_cons, ih hn.2 hm, mulN, if_neg e]
      omega
/-- The number of heirs that have two parts. -/
def twoN (fi : ByteArray) (l : List ByteArray) : Nat := (l.filter fun s => decide (s = fi)).length
theorem twoN_le {fi : ByteArray} {l : List ByteArray} (hn : l.Nodup) : twoN fi l ≤ 1 := by
  induction l with
  | nil => simp [twoN]
  | cons s l ih =>
    rw [List.nodup_cons] at hn
    unfold twoN
    rw [List.filter_cons]
    by_cases e : s = fi
    · subst e
      have : l.filter (fun t => decide (t = s)) = [] := by
        rw [List.filter_eq_nil_iff]
        intro t ht hq
        rw [decide_eq_true_eq] at hq
        exact hn.1 (hq ▸ ht)
      rw [this]
      simp
    · rw [decide_eq_false e]
      exact ih hn.2
/-- The least of the shares so far. -/
def leastN (fi : ByteArray) : List ByteArray → Nat → Nat
  | [], m => m
  | s :: l, m => leastN fi l (if mulN fi s < m then mulN fi s else m)
theorem leastN_snoc (fi : ByteArray) (l : List ByteArray) (s : ByteArray) (m : Nat) : leastN fi (l ++ [s]) m = if mulN fi s < leastN fi l m then mulN fi s else leastN fi l m := by
  induction l generalizing m with
  | nil => rfl
  | cons t l ih => exact ih _
theorem leastN_range (fi : ByteArray) (l : List ByteArray) : ∀ m, 1 ≤ m → 1 ≤ leastN fi l m ∧ leastN fi l m ≤ m := by
  induction l with
  | nil => intro m h; exact ⟨h, Nat.le_refl _⟩
  | cons t l ih =>
    intro m h
    have := mulN_le fi t
    have := ih (if mulN fi t < m then mulN fi t else m) (by split <;> omega)
    refine ⟨this.1, Nat.le_trans this.2 ?_⟩
    split <;> omega
theorem leastN_one {fi : ByteArray} {l : List ByteArray} {s : ByteArray} (hs : s ∈ l) (hne : s ≠ fi) : ∀ m, 1 ≤ m → leastN fi l m = 1 := by
  induction l with
  | nil => cases hs
  | cons t l ih =>
    intro m h
    have ht := mulN_le fi t
    rcases List.mem_cons.1 hs with rfl | hs
    · have e : mulN fi s = 1 := if_neg hne
      have := leastN_range fi l (if mulN fi s < m then mulN fi s else m) (by split <;> omega)
      have h2 : (if mulN fi s < m then mulN fi s else m) ≤ 1 := by split <;> omega
      show leastN fi l (if mulN fi s < m then mulN fi s else m) = 1
      omega
    · exact ih hs _ (by split <;> omega)
theorem elderF_sub {D : Mat} {ps hs : List ByteArray} {s : ByteArray} (h : s ∈ elderF D ps hs hs) : s ∈ hs := (List.mem_filter.1 h).1
/-- What is true of the heirs of a person. -/
theorem heirs_law {D : Mat} {ps hs : List ByteArray} (hn : hs.Nodup) (hne : ¬ (⟨#[]⟩ : ByteArray) ∈ hs) (h0 : 0 < hs.length) (hm : hs.length ≤ 900) :
    ∃ fi p, fi = firstF hs (elderF D ps hs hs) ∧ p = partsF hs (elderF D ps hs hs) ∧ 1 ≤ p ∧ p ≤ 1000 ∧ sumN fi hs = p ∧ twoN fi hs ≤ 1 ∧ ∀ m, 1 ≤ m → m ≤ 2 → leastN fi hs m = 1 := by
  refine ⟨_, _, rfl, rfl, ?_⟩
  have hfew := twoN_le (fi := firstF hs (elderF D ps hs hs)) hn
  have hle : ∀ fi : ByteArray, (1 < hs.length ∨ ¬ fi ∈ hs) → ∀ m, 1 ≤ m → m ≤ 2 → leastN fi hs m = 1 := by
    intro fi hq m h1 h2
    match hs, h0, hn, hq with
    | [s], _, _, hq =>
      have : s ≠ fi := by rintro rfl; simp at hq
      exact leastN_one (l := [s]) (by simp) this m h1
    | s :: t :: l, _, hn, _ =>
      by_cases e : s = fi
      · have : t ≠ fi := by
          rintro rfl
          rw [List.nodup_cons] at hn
          exact hn.1 (by simp [e])
        exact leastN_one (by simp) this m h1
      · exact leastN_one (by simp) e m h1
  by_cases h : 1 < hs.length ∧ (elderF D ps hs hs).length = 1
  · obtain ⟨s, hs1⟩ := List.length_eq_one_iff.1 h.2
    have hm1 : s ∈ hs := elderF_sub (D := D) (ps := ps) (by rw [hs1]; simp)
    have e1 : firstF hs (elderF D ps hs hs) = s := by unfold firstF; rw [if_pos h, hs1]; rfl
    have e2 : partsF hs (elderF D ps hs hs) = hs.length + 1 := if_pos h
    rw [e1] at hfew
    rw [e1, e2]
    exact ⟨by omega, by omega, sumN_one hn hm1, hfew, hle s (.inl h.1)⟩
  · have e1 : firstF hs (elderF D ps hs hs) = ⟨#[]⟩ := if_neg h
    have e2 : partsF hs (elderF D ps hs hs) = hs.length := if_neg h
    rw [e1] at hfew
    rw [e1, e2]
    exact ⟨by omega, by omega, sumN_no hne, hfew, hle _ (.inr hne)⟩
end

section
open Go Go.RowKit Go.Shelf
attribute [local go_sem] Oper.semAt_some

theorem undrew_s {V w : World} (h : Below V.drew.heap.size V.drew w) : Below V.heap.size V w := ⟨h.os, h.tape, h.output, h.size, h.block⟩
theorem sharesV_get {fi : ByteArray} {p : Nat} {l : List ByteArray} {k : Nat} (h : k < l.length) : (sharesV fi p l)[k * 3]? = some (.string l[k]) ∧ (sharesV fi p l)[k * 3 + 1]? = some (.int .i64 (shareR fi p l[k]).n) ∧ (sharesV fi p l)[k * 3 + 2]? = some (.int .i64 (shareR fi p l[k]).d) := by
  induction l generalizing k with
  | nil => simp at h
  | cons s l ih =>
    have e : sharesV fi p (s :: l) = .string s :: .int .i64 (shareR fi p s).n :: .int .i64 (shareR fi p s).d :: sharesV fi p l := rfl
    rw [e]
    cases k with
    | zero => exact ⟨rfl, rfl, rfl⟩
    | succ k =>
      have := ih (k := k) (by simpa using h)
      rw [show (k + 1) * 3 = k * 3 + 1 + 1 + 1 by omega, show k * 3 + 1 + 1 + 1 + 1 = (k * 3 + 1) + 1 + 1 + 1 by omega, show k * 3 + 1 + 1 + 1 + 2 = (k * 3 + 2) + 1 + 1 + 1 by omega]
      exact this
theorem name_some {ps : List ByteArray} (h : namesOk ps = true) : ¬ (⟨#[]⟩ : ByteArray) ∈ ps := by
  intro hm
  obtain ⟨i, hi, e⟩ := List.getElem_of_mem hm
  have := List.all_eq_true.1 h i (List.mem_range.2 hi)
  unfold okAt at this
  rw [Bool.and_eq_true, List.getD_eq_getElem?_getD, List.getElem?_eq_getElem hi, Option.getD_some, e] at this
  exact absurd this.1 (by decide)
theorem sumN_take {fi : ByteArray} {l : List ByteArray} {k : Nat} (h : k < l.length) : sumN fi (l.take (k + 1)) = sumN fi (l.take k) + mulN fi l[k] := by
  rw [List.take_succ_eq_append_getElem h, sumN_append]
  simp [sumN]
theorem leastN_take {fi : ByteArray} {l : List ByteArray} {k m : Nat} (h : k < l.length) : leastN fi (l.take (k + 1)) m = if mulN fi l[k] < leastN fi (l.take k) m then mulN fi l[k] else leastN fi (l.take k) m := by
  rw [List.take_succ_eq_append_getElem h, leastN_snoc]
theorem twoN_take {fi : ByteArray} {l : List ByteArray} {k : Nat} (h : k < l.length) : twoN fi (l.take (k + 1)) = twoN fi (l.take k) + if l[k] = fi then 1 else 0 := by
  rw [List.take_succ_eq_append_getElem h]
  unfold twoN
  rw [List.filter_append, List.length_append]
  by_cases e : l[k] = fi <;> simp [e]
/-- What the walk of the law needs of the shares. -/
structure Shared (fi : ByteArray) (p : Nat) (l : List ByteArray) (S L : Nat → RR) : Prop where
  s0 : S 0 = ⟨0, 1, 0⟩
  l0 : ∀ h : 0 < l.length, L 0 = shareR fi p l[0]
  bd : ∀ k (h : k < l.length), Bd (shareR fi p l[k]).n ∧ Bd (shareR fi p l[k]).d
  sb : ∀ k, k ≤ l.length → Bd (S k).n ∧ Bd (S k).d ∧ (S k).e = 0
  lb : ∀ k, k ≤ l.length → Bd (L k).n ∧ Bd (L k).d
  add : ∀ k (h : k < l.length), opF (S k).n (S k).d (shareR fi p l[k]).n (shareR fi p l[k]).d (fit (rat (S k).n (S k).d + rat (shareR fi p l[k]).n (shareR fi p l[k]).d)) = S (k + 1)
  cmp : ∀ k (h : k < l.length), cmpE (shareR fi p l[k]).n (shareR fi p l[k]).d (L k).n (L k).d = 0 ∧ (L (k + 1)) = if cmpV (shareR fi p l[k]).n (shareR fi p l[k]).d (L k).n (L k).d < 0 then shareR fi p l[k] else L k
  one : S l.length = ⟨1, 1, 0⟩
  mul : opF (L l.length).n (L l.length).d 2 1 (mulR (L l.length).n (L l.length).d 2 1) = qn 2 p ∧ (qn 2 p).e = 0
  same : ∀ k (h : k < l.length), l[k] ≠ fi → shareR fi p l[k] = L l.length
  twice : ∀ k (h : k < l.length), l[k] = fi → shareR fi p l[k] = qn 2 p
  apart : ¬ ((qn 2 p).n = (L l.length).n ∧ (qn 2 p).d = (L l.length).d)
  few : twoN fi l ≤ 1
theorem shared_is {D : Mat} {ps hs : List ByteArray} (hn : hs.Nodup) (hne : ¬ (⟨#[]⟩ : ByteArray) ∈ hs) (h0 : 0 < hs.length) (hm : hs.length ≤ 400) :
    ∃ S L, Shared (firstF hs (elderF D ps hs hs)) (partsF hs (elderF D ps hs hs)) hs S L := by
  obtain ⟨fi, p, e1, e2, hp1, hp2, hsum, htwo, hleast⟩ := heirs_law (D := D) (ps := ps) hn hne h0 (by omega)
  rw [← e1, ← e2]
  have hS : ∀ k, sumN fi (hs.take k) ≤ 1000 := fun k => by
    have := sumN_le fi (hs.take k)
    have : (hs.take k).length ≤ hs.length := List.length_take_le' k hs
    omega
  have hm0 := mulN_le fi hs[0]
  have hL : ∀ k, 1 ≤ leastN fi (hs.take k) (mulN fi hs[0]) ∧ leastN fi (hs.take k) (mulN fi hs[0]) ≤ 2 := fun k => by
    have := leastN_range fi (hs.take k) (mulN fi hs[0]) hm0.1
    omega
  have hq := fun s => shareR_qn fi s p hp1
  have hml := fun s => mulN_le fi s
  have hend : leastN fi (hs.take hs.length) (mulN fi hs[0]) = 1 := by rw [List.take_length]; exact hleast _ hm0.1 hm0.2
  refine ⟨fun k => qn (sumN fi (hs.take k)) p, fun k => qn (leastN fi (hs.take k) (mulN fi hs[0])) p, ?_⟩
  constructor
  · exact qn_zero p
  · intro h
    rw [hq]
    rfl
  · intro k h
    rw [hq]
    exact qn_Bd (by have := hml hs[k]; omega) hp1 hp2
  · intro k h
    have := qn_Bd (hS k) hp1 hp2
    exact ⟨this.1, this.2, qn_ok (hS k) hp1 hp2⟩
  · intro k h
    exact qn_Bd (by have := hL k; omega) hp1 hp2
  · intro k h
    rw [hq, qn_add (hS k) (by have := hml hs[k]; omega) hp1 hp2, sumN_take h]
  · intro k h
    rw [hq]
    obtain ⟨c1, c2⟩ := qn_cmp (k := mulN fi hs[k]) (m := leastN fi (hs.take k) (mulN fi hs[0])) (by have := hml hs[k]; omega) (by have := hL k; omega) hp1 hp2
    refine ⟨c1, ?_⟩
    rw [leastN_take h]
    by_cases hlt : mulN fi hs[k] < leastN fi (hs.take k) (mulN fi hs[0])
    · rw [if_pos hlt, if_pos (c2.2 hlt)]
    · rw [if_neg hlt, if_neg (fun q => hlt (c2.1 q))]
  · rw [List.take_length, hsum]
    exact qn_self hp1
  · rw [hend]
    exact ⟨qn_twice hp1 hp2, qn_ok (by decide) hp1 hp2⟩
  · intro k h hne
    rw [hq, hend]
    unfold mulN
    rw [if_neg hne]
  · intro k h he
    rw [hq]
    unfold mulN
    rw [if_pos he]
  · rw [hend]
    rintro ⟨h1, h2⟩
    have := qn_inj (by decide) (by decide) hp1 hp2 h1 h2
    omega
  · exact htwo
set_option maxRecDepth 100000 in
set_option maxHeartbeats 4000000 in
theorem sharesSum_err (r : Int) (hr : r = 3 ∨ r = 100 ∨ r = 2 ∨ r = 101) (A : Option Addr) (c : Nat) (F : Option Addr) (d : Nat) (ps : List ByteArray) (fs : List Fa) (a : ByteArray) (w : World) (h : NetC w A ps.length c F fs.length d ps fs) (hs : Short ps) (hz : Zw w) (hh : heirsV ps fs a = ([], r)) :
    Calls Tryd.prog 12 #[.agg #[.slice A ps.length c, .slice F fs.length d], .string a] w fun e w' => e = .returned (.bool true) ∧ Below w.heap.size w w' := by
  have hb0 := below_alloc' w (.cells #[.slice A ps.length c, .slice F fs.length d] 25)
  have y0 := Cel.new w 25 #[.slice A ps.length c, .slice F fs.length d]
  obtain ⟨W, hW⟩ : ∃ W, w.alloc (.cells #[.slice A ps.length c, .slice F fs.length d] 25) = W := ⟨_, rfl⟩
  rw [hW] at hb0 y0
  have HB0 := Lib.hid hb0
  have HY := Lib.hid y0
  have HWk := Lib.hid (fun w' hb => works_any w' (hz.below hb))
  have HH := Lib.hid (heirs_any A ps.length c F fs.length d ps fs a W (h.below hb0) (hz.below hb0) hs)
  rw [hh] at HH
  have HC := Lib.hid (fun w' (hw : Below w.heap.size w w') => pChildren_any A ps.length c F fs.length d ps fs a w' (h.below hw) hs)
  generalize (if namedF ps fs [a] = 0 then childrenF fs a else []) = ch at *
  generalize namedF ps fs [a] = r2 at *
  have z0 := y0.cell 0 _ rfl
  have z1 := y0.cell 1 _ rfl
  clear h hs hz hb0 y0 hh
  rcases hr with rfl | rfl | rfl | rfl
  all_goals
    go_enter Tryd.func12, Tryd.ntmps12
    go_wp2_with fail
    refine HH.out.mono ?_
    rintro e w1 ⟨hb1, v, rfl, hv⟩
    obtain ⟨Av, nv, cv, rfl, hl0, _⟩ := hv
    obtain rfl : nv = 0 := by simp at hl0; omega
    clear z0 z1 hl0
    have HB1 := Lib.hid (HB0.out.trans (hb1.mono HB0.out.size))
    replace HY := Lib.hid (HY.out.below HY.out.lt hb1)
    have z0 := HY.out.cell 0 _ rfl
    have z1 := HY.out.cell 1 _ rfl
    clear hb1
    go_wp2_with fail
    clear z0 z1
    refine (HC.out _ HB1.out).mono ?_
    rintro e w2 ⟨hb2, v2, rfl, hv2⟩
    have HB2 := Lib.hid (HB1.out.trans (hb2.mono HB1.out.size))
    clear hb2 hv2
    go_wp2_with fail
    refine (HWk.out _ HB2.out).mono ?_
    rintro e w3 ⟨rfl, hb3⟩
    have HB3 := Lib.hid (HB2.out.trans (hb3.mono HB2.out.size))
    clear hb3
    go_wp2
    go_ret
    exact ⟨rfl, HB3.out⟩
set_option maxRecDepth 100000 in
set_option maxHeartbeats 8000000 in
theorem sharesSum_good (A : Option Addr) (c : Nat) (F : Option Addr) (d : Nat) (ps : List ByteArray) (fs : List Fa) (a : ByteArray) (w : World) (h : NetC w A ps.length c F fs.length d ps fs) (hs : Short ps) (hz : Zw w) (hc : namedF ps fs [a] = 0) (ch : List ByteArray) (hch : childrenF fs a = ch) (hl : ch.length ≤ 400) (fi : ByteArray) (p : Nat) (S L : Nat → RR) (hh : heirsV ps fs a = (sharesV fi p ch, 0)) (hq : Shared fi p ch S L) (h0 : 0 < ch.length) :
    Calls Tryd.prog 12 #[.agg #[.slice A ps.length c, .slice F fs.length d], .string a] w fun e w' => e = .returned (.bool true) ∧ Below w.heap.size w w' := by
  have hb0 := below_alloc' w (.cells #[.slice A ps.length c, .slice F fs.length d] 25)
  have y0 := Cel.new w 25 #[.slice A ps.length c, .slice F fs.length d]
  obtain ⟨W, hW⟩ : ∃ W, w.alloc (.cells #[.slice A ps.length c, .slice F fs.length d] 25) = W := ⟨_, rfl⟩
  rw [hW] at hb0 y0
  have HB0 := Lib.hid hb0
  have HY := Lib.hid y0
  have HZ := Lib.hid (fun w' (hb : Below w.heap.size w w') => hz.below hb)
  have HWk := Lib.hid (fun w' hb => works_any w' (hz.below hb))
  have HH := Lib.hid (heirs_any A ps.length c F fs.length d ps fs a W (h.below hb0) (hz.below hb0) hs)
  rw [hh] at HH
  have HC := Lib.hid (fun w' (hw : Below w.heap.size w w') => pChildren_any A ps.length c F fs.length d ps fs a w' (h.below hw) hs)
  rw [hc, if_pos rfl, hch] at HC
  have HQ := Lib.hid hq
  have z0 := y0.cell 0 _ rfl
  have z1 := y0.cell 1 _ rfl
  clear h hs hz hb0 y0 hh hc hch hq
  go_enter Tryd.func12, Tryd.ntmps12
  go_wp2_with fail
  refine HH.out.mono ?_
  rintro e w1 ⟨hb1, v, rfl, hv⟩
  obtain ⟨Av, nv, cv, rfl, hl0, hcv, hcvm, hcl⟩ := hv.open2 (by decide)
  obtain rfl : nv = ch.length := by rw [sharesV_length] at hl0; omega
  have HV := Lib.hid hv
  clear z0 z1 hl0 hcl hv
  have HB1 := Lib.hid (HB0.out.trans (hb1.mono HB0.out.size))
  replace HY := Lib.hid (HY.out.below HY.out.lt hb1)
  have z0 := HY.out.cell 0 _ rfl
  have z1 := HY.out.cell 1 _ rfl
  clear hb1
  go_wp2_with fail
  clear z0 z1
  refine (HC.out _ HB1.out).mono ?_
  rintro e V ⟨hb2, v2, rfl, hv2⟩
  obtain ⟨Ac, cc, ev, hcc, hccm, _⟩ := hv2.open1
  rw [namesV_length] at ev hcc
  subst ev
  have HV := Lib.hid (HV.out.below hb2)
  have HC2 := Lib.hid hv2
  have HB2 := Lib.hid (HB1.out.trans (hb2.mono HB1.out.size))
  clear hb2 hv2
  have HVV := Lib.hid (Below.refl V.heap.size V)
  have hn0 : ((ch.length : Int) == 0) = false := by rw [beq_eq_false_iff_ne]; omega
  have hnn : ((ch.length : Int) != (ch.length : Int)) = false := by simp
  have HX : Hid (∀ w', Below V.heap.size V w' → ∀ k (hk : k < ch.length), ∃ b o b2 o2, Av = some ⟨b, o, none⟩ ∧ Ac = some ⟨b2, o2, none⟩ ∧ w'.cell? ⟨b, o + k * 3, none⟩ = some (.string ch[k]) ∧ w'.cell? ⟨b, o + k * 3 + 1, none⟩ = some (.int .i64 (shareR fi p ch[k]).n) ∧ w'.cell? ⟨b, o + k * 3 + 2, none⟩ = some (.int .i64 (shareR fi p ch[k]).d) ∧ w'.cell? ⟨b2, o2 + k, none⟩ = some (.string ch[k])) := fun w' hb k hk => by
    obtain ⟨_, _, _, e, _, _, _, hcl⟩ := HV.out.open2 (by decide)
    cases e
    obtain ⟨b, o, e, _, hce⟩ := hcl (by omega)
    obtain ⟨_, _, _, e2, _, _, _, hcl2⟩ := HC2.out.open2 (by decide)
    cases e2
    obtain ⟨b2, o2, e2, _, hce2⟩ := hcl2 (by omega)
    obtain ⟨g0, g1, g2⟩ := sharesV_get (fi := fi) (p := p) hk
    refine ⟨b, o, b2, o2, e, e2, below_cell hb (hce _ _ g0), ?_, ?_, below_cell hb (hce2 k _ (by simp [namesV, List.getElem?_eq_getElem hk]))⟩
    · have := below_cell hb (hce _ _ g1)
      rwa [← Nat.add_assoc] at this
    · have := below_cell hb (hce _ _ g2)
      rwa [← Nat.add_assoc] at this
  clear HV HC2 HH HC HY HB0 HB1
  obtain ⟨b, o, b2, o2, e1, e2, _⟩ := HX.out V HVV.out 0 h0
  subst e1
  subst e2
  replace HX : Hid (∀ w', Below V.heap.size V w' → ∀ k (hk : k < ch.length), w'.cell? ⟨b, o + k * 3, none⟩ = some (.string ch[k]) ∧ w'.cell? ⟨b, o + k * 3 + 1, none⟩ = some (.int .i64 (shareR fi p ch[k]).n) ∧ w'.cell? ⟨b, o + k * 3 + 2, none⟩ = some (.int .i64 (shareR fi p ch[k]).d) ∧ w'.cell? ⟨b2, o2 + k, none⟩ = some (.string ch[k])) := fun w' hb k hk => by
    obtain ⟨_, _, _, _, e1, e2, e3⟩ := HX.out w' hb k hk
    cases e1
    cases e2
    exact e3
  obtain ⟨x0, x1, x2, _⟩ := HX.out V HVV.out 0 h0
  simp only [Nat.zero_mul, Nat.add_zero] at x0 x1 x2
  have HQs := Lib.hid HQ.out.s0
  have HQl := Lib.hid (HQ.out.l0 h0)
  rw [← HQl.out] at x1 x2
  have hone : (0 : Int) < (ch.length : Int) := by omega
  have X1 : Hid (∀ w', Below V.heap.size V w' → w'.cell? ⟨b, o + 1, none⟩ = some (.int .i64 (L 0).n) ∧ w'.cell? ⟨b, o + 2, none⟩ = some (.int .i64 (L 0).d)) := fun w' hb => ⟨below_cell hb x1, below_cell hb x2⟩
  go_upto_region 9 with fail
  go_cut [9, 10, 11] (fun v9 v10 v11 wx => ∃ (Wx : World) (B9 B10 : Nat), Wx = wx ∧ v9 = .pointer (some ⟨B9, 0, none⟩) ∧ v10 = .pointer (some ⟨B10, 0, none⟩) ∧ v11 = .int .i64 0 ∧ Cel wx B9 82 #[.int .i64 (S 0).n, .int .i64 (S 0).d] ∧ Cel wx B10 82 #[.int .i64 (L 0).n, .int .i64 (L 0).d] ∧ B9 ≠ B10 ∧ V.heap.size ≤ B9 ∧ V.heap.size ≤ B10 ∧ Below V.heap.size V wx)
  case first =>
    go_region_held3 (fun w' => w'.cell? ⟨b, o + 1, none⟩ = some (.int .i64 (L 0).n) ∧ w'.cell? ⟨b, o + 2, none⟩ = some (.int .i64 (L 0).d))
      (first | exact X1.out _ (by (repeat (first | exact HVV.out | refine below_drew ?_ | refine Below.setCell ?_ (by first | omega | (simp; done) | (simp; omega)) _ | refine Below.alloc ?_ (by first | omega | (simp; done) | (simp; omega)) _)); done) | go_keep)
      (fail)
    all_goals (
      go_wp2
      go_meet
      exact ⟨_, _, _, rfl, rfl, rfl, rfl, (by rw [HQs.out]; first | exact (Cel.new V _ _).alloc _ | exact Cel.at (V.alloc _) _ _ _ (by simp)), (by first | exact (Cel.new V _ _).alloc _ | exact Cel.at (V.alloc _) _ _ _ (by simp)), by omega, by omega, by omega, (by (repeat (first | exact HVV.out | refine below_drew ?_ | refine Below.alloc ?_ (by first | omega | (simp; done) | (simp; omega)) _)))⟩)
  case rest =>
    obtain ⟨V1, B9, B10, rfl, rfl, rfl, rfl, hY9, hY10, hne, hg9, hg10, hbV⟩ := hcut
    have HY9 := Lib.hid hY9
    have HY10 := Lib.hid hY10
    have HBV := Lib.hid hbV
    clear x0 x1 x2 X1 hY9 hY10 hbV HQs HQl
    go_wp2
    go_loopw [12] (fun ti wr => ∃ k : Nat, ti = .int .i64 k ∧ k ≤ ch.length ∧ Hid (Cel wr B9 82 #[.int .i64 (S k).n, .int .i64 (S k).d]) ∧ Hid (Cel wr B10 82 #[.int .i64 (L k).n, .int .i64 (L k).d]) ∧ Hid (Below V.heap.size V wr)) (fun ti _ => ch.length - (intOf ti).toNat)
    case atStart => exact ⟨0, rfl, by omega, HY9, HY10, HBV⟩
    case round =>
      obtain ⟨k, rfl, hk, HY9, HY10, HB⟩ := hrel
      by_cases hlt : k < ch.length
      · have hki : (k : Int) < (ch.length : Int) := by omega
        have HE : Hid (∀ w', Below V.heap.size V w' → _) := fun w' hb => HX.out w' hb k hlt
        have HA0 := Lib.hid (HQ.out.add k hlt)
        have HC0 := Lib.hid (HQ.out.cmp k hlt)
        have HB0 := Lib.hid (HQ.out.bd k hlt)
        have HB1 := Lib.hid (HQ.out.sb k (by omega))
        have HB2' := Lib.hid (HQ.out.sb (k + 1) (by omega))
        have HB3 := Lib.hid (HQ.out.lb k (by omega))
        generalize ch[k] = s at *
        have HAd := Lib.hid (fun w' (hb : Below wr.heap.size wr w') => add_any (S k).n (S k).d (shareR fi p s).n (shareR fi p s).d w' (HZ.out _ (HB2.out.trans ((HB.out.trans (hb.mono HB.out.size)).mono HB2.out.size))) HB1.out.1 HB1.out.2.1 HB0.out.1 HB0.out.2)
        rw [HA0.out] at HAd
        have HCm := Lib.hid (fun w' => cmp_any (shareR fi p s).n (shareR fi p s).d (L k).n (L k).d w' HB0.out.1 HB0.out.2 HB3.out.1 HB3.out.2)
        obtain ⟨hce, hcn⟩ := HC0.out
        rw [hce] at HCm
        have HCn := Lib.hid hcn
        have hse := HB2'.out.2.2
        unfold rrV at HAd
        rw [hse] at HAd
        obtain ⟨d0, d1, d2, d3⟩ := HE.out wr HB.out
        clear hce hcn HA0 HC0 HB0 HB1 HB2' HB3 hse
        generalize cmpV (shareR fi p s).n (shareR fi p s).d (L k).n (L k).d = vc at *
        generalize shareR fi p s = X at *
        generalize hS0 : S k = S0 at *
        generalize hS1 : S (k + 1) = S1 at *
        generalize hL0 : L k = L0 at *
        generalize hL1 : L (k + 1) = L1 at *
        have HSS := Lib.hid hS1
        have HLL := Lib.hid hL1
        clear hS0 hS1 hL0 hL1
        obtain ⟨xn, xd, xe⟩ := X
        obtain ⟨sn, sd, se⟩ := S0
        obtain ⟨tn, td, te⟩ := S1
        obtain ⟨ln, ld, le⟩ := L0
        simp only at HAd HCm HCn HE d1 d2 HY9 HY10
        have HR0 := Lib.hid (Below.refl wr.heap.size wr)
        have y0 := HY9.out.cell 0 _ rfl
        have y1 := HY9.out.cell 1 _ rfl
        have HLd : Hid (∀ w', Below wr.heap.size wr w' → w'.cell? ⟨B9, 0, none⟩ = some (.int .i64 sn) ∧ w'.cell? ⟨B9, 1, none⟩ = some (.int .i64 sd) ∧ w'.cell? ⟨b, o + k * 3 + 1, none⟩ = some (.int .i64 xn) ∧ w'.cell? ⟨b, o + k * 3 + 2, none⟩ = some (.int .i64 xd)) := fun w' hb => ⟨below_cell hb y0, below_cell hb y1, below_cell hb d1, below_cell hb d2⟩
        go_upto_region 13 with fail
        go_cut [13, 14] (fun t13 t14 wx => ∃ (Wx : World) (B : Nat), Wx = wx ∧ t13 = .pointer (some ⟨B, 0, none⟩) ∧ t14 = .int .i64 0 ∧ Cel wx B 82 #[.int .i64 tn, .int .i64 td] ∧ wr.heap.size ≤ B ∧ Below wr.heap.size wr wx)
        case first =>
          go_region_held3 (fun w' => w'.cell? ⟨B9, 0, none⟩ = some (.int .i64 sn) ∧ w'.cell? ⟨B9, 1, none⟩ = some (.int .i64 sd) ∧ w'.cell? ⟨b, o + k * 3 + 1, none⟩ = some (.int .i64 xn) ∧ w'.cell? ⟨b, o + k * 3 + 2, none⟩ = some (.int .i64 xd)) (first | exact HLd.out _ hB2 | exact HLd.out _ (by (repeat (first | exact hB2 | exact HR0.out | refine below_drew ?_ | refine Below.setCell ?_ (by first | omega | (simp; done) | (simp; omega)) _ | refine Below.alloc ?_ (by first | omega | (simp; done) | (simp; omega)) _)); done) | go_keep)
            (first
            | (go_at_call 47; refine (HAd.out _ (by repeat (first | exact HR0.out | refine below_drew ?_ | refine Below.alloc ?_ (by first | omega | (simp; done) | (simp; omega)) _))).mono ?_; rintro e w1 ⟨rfl, hb1⟩; have hB2s := hb1.size; have hB2 : Below wr.heap.size wr w1 := (by first | exact undrew_s (show Below wr.heap.size wr.drew w1 from hb1) | exact below_then (below_alloc' wr (.cells #[.int .i64 0, .int .i64 0] 82)) (undrew_s (show Below (wr.alloc (.cells #[.int .i64 0, .int .i64 0] 82)).heap.size (wr.alloc (.cells #[.int .i64 0, .int .i64 0] 82)).drew w1 from hb1))); have hB2z := hB2.size; have HBW := Lib.hid hB2; (first | (have hy := (show Cel ((wr.alloc (.cells #[.int .i64 0, .int .i64 0] 82)).drew) wr.heap.size 82 #[.int .i64 0, .int .i64 0] from Cel.new wr _ _).below (by simp) hb1; have z0 := hy.cell 0 (.int .i64 0) rfl; have z1 := hy.cell 1 (.int .i64 0) rfl; have w0 := hy.frozen 0; have w1 := hy.frozen 1; have HYY := Lib.hid hy; clear hy) | skip)))
          all_goals (
            go_wp2
            go_meet
            first
            | exact ⟨_, w1.heap.size, rfl, rfl, rfl, Cel.new w1 _ _, by have := HBW.out.size; omega, HBW.out.alloc HBW.out.size _⟩
            | exact ⟨_, wr.heap.size, rfl, rfl, rfl, HYY.out.set2 _ _, Nat.le_refl _, (HBW.out.setCell (p := ⟨wr.heap.size, 0, none⟩) (Nat.le_refl _) _).setCell (p := ⟨wr.heap.size, 1, none⟩) (Nat.le_refl _) _⟩)
        case rest =>
          obtain ⟨Wq, Bq, rfl, rfl, rfl, hYq, hBq, hbq⟩ := hcut
          have HBq := Lib.hid (HB.out.trans (hbq.mono HB.out.size))
          have hsz := HB.out.size
          have hszq := hbq.size
          have HX9 := Lib.hid (HY9.out.below HY9.out.lt hbq)
          have HX10 := Lib.hid (HY10.out.below HY10.out.lt hbq)
          have l9 := HX9.out.lt
          have l10 := HX10.out.lt
          obtain ⟨d0', _, _, d3'⟩ := HE.out Wq HBq.out
          have q0 := hYq.cell 0 _ rfl
          have q1 := hYq.cell 1 _ rfl
          have f0 := HX9.out.frozen 0
          have f1 := HX9.out.frozen 1
          have x90 := HX9.out.cell 0 _ rfl
          have x91 := HX9.out.cell 1 _ rfl
          have k1 : (0 : Int) ≤ (k : Int) := by omega
          clear d0 d1 d2 d3 y0 y1 HLd HY9 hYq hbq HAd
          go_upto_region 14 with fail
          go_quiet (fail)
          go_upto_region 17 with fail
          have HZ9 := Lib.hid ((show Cel (Wq.drewN nq) B9 82 #[.int .i64 sn, .int .i64 sd] from HX9.out).set2 (.int .i64 tn) (.int .i64 td))
          have HZ10 := Lib.hid (((show Cel (Wq.drewN nq) B10 82 #[.int .i64 ln, .int .i64 ld] from HX10.out).other (p := ⟨B9, 0, none⟩) hne (.int .i64 tn)).other (p := ⟨B9, 1, none⟩) hne (.int .i64 td))
          have HBZ := Lib.hid (((below_drewN HBq.out nq).setCell (p := ⟨B9, 0, none⟩) hg9 (.int .i64 tn)).setCell (p := ⟨B9, 1, none⟩) hg9 (.int .i64 td))
          clear q0 q1 f0 f1 x90 x91 d0' d3' HX9 HX10 HBq
          generalize (((Wq.drewN nq).setCell ⟨B9, 0, none⟩ (.int .i64 tn)).setCell ⟨B9, 1, none⟩ (.int .i64 td)) = Wz at *
          obtain ⟨_, d1, d2, _⟩ := HE.out Wz HBZ.out
          have y0 := HZ10.out.cell 0 _ rfl
          have y1 := HZ10.out.cell 1 _ rfl
          have HR1 := Lib.hid (Below.refl Wz.heap.size Wz)
          have HLd : Hid (∀ w', Below Wz.heap.size Wz w' → w'.cell? ⟨B10, 0, none⟩ = some (.int .i64 ln) ∧ w'.cell? ⟨B10, 1, none⟩ = some (.int .i64 ld) ∧ w'.cell? ⟨b, o + k * 3 + 1, none⟩ = some (.int .i64 xn) ∧ w'.cell? ⟨b, o + k * 3 + 2, none⟩ = some (.int .i64 xd)) := fun w' hb => ⟨below_cell hb y0, below_cell hb y1, below_cell hb d1, below_cell hb d2⟩
          go_region_held3 (fun w' => w'.cell? ⟨B10, 0, none⟩ = some (.int .i64 ln) ∧ w'.cell? ⟨B10, 1, none⟩ = some (.int .i64 ld) ∧ w'.cell? ⟨b, o + k * 3 + 1, none⟩ = some (.int .i64 xn) ∧ w'.cell? ⟨b, o + k * 3 + 2, none⟩ = some (.int .i64 xd)) (first | exact HLd.out _ hB2 | exact HLd.out _ (by (repeat (first | exact hB2 | exact HR1.out | refine below_drew ?_)); done) | go_keep)
            (first
            | (go_at_call 48; refine (HCm.out _).mono ?_; rintro e w1 ⟨rfl, hb1⟩; have hB2 : Below Wz.heap.size Wz w1 := undrew_s (show Below Wz.drew.heap.size Wz.drew w1 from hb1)))
          have HB3 := Lib.hid (HBZ.out.trans (hB2.mono HBZ.out.size))
          have HY9 := Lib.hid (HZ9.out.below HZ9.out.lt hB2)
          have HY10 := Lib.hid (HZ10.out.below HZ10.out.lt hB2)
          obtain ⟨_, e1, e2, _⟩ := HE.out w1 HB3.out
          have f0 := HY10.out.frozen 0
          have f1 := HY10.out.frozen 1
          have x0 := HY10.out.cell 0 _ rfl
          have x1 := HY10.out.cell 1 _ rfl
          clear d1 d2 y0 y1 HLd HR1 hB2 hb1 HZ9 HZ10 HBZ
          by_cases hv : vc < 0
          · have hd := decide_eq_true hv
            have HL := Lib.hid (HCn.out.trans (if_pos hv))
            clear hv
            go_wp2
            go_roundw
            case rel => exact ⟨k + 1, by go_num, by omega, by rw [HSS.out]; exact HY9.out.other (p := ⟨B10, 0, none⟩) (Ne.symm hne) _ |>.other (p := ⟨B10, 1, none⟩) (Ne.symm hne) _, by rw [HLL.out, HL.out]; exact HY10.out.set2 _ _, (HB3.out.setCell (p := ⟨B10, 0, none⟩) hg10 _).setCell (p := ⟨B10, 1, none⟩) hg10 _⟩
            case measure => simp [intOf]; omega
          · have hd := decide_eq_false hv
            have HL := Lib.hid (HCn.out.trans (if_neg hv))
            clear hv
            go_wp2
            go_roundw
            case rel => exact ⟨k + 1, by go_num, by omega, by rw [HSS.out]; exact HY9.out, by rw [HLL.out, HL.out]; exact HY10.out, HB3.out⟩
            case measure => simp [intOf]; omega
      · have hki : ¬ ((k : Int) < (ch.length : Int)) := by omega
        have hkn : k = ch.length := by omega
        rw [hkn, HQ.out.one] at HY9
        rw [hkn] at HY10
        obtain ⟨hm1, hm2⟩ := HQ.out.mul
        have hlb := HQ.out.lb ch.length (Nat.le_refl _)
        have HM := Lib.hid (mul_any (L ch.length).n (L ch.length).d 2 1 wr (HZ.out _ (HB2.out.trans (HB.out.mono HB2.out.size))) hlb.1 hlb.2 (by unfold Bd; decide) (by unfold Bd; decide))
        rw [hm1] at HM
        have HS := Lib.hid (fun j hj q => HQ.out.same j hj q)
        have HT := Lib.hid (fun j hj q => HQ.out.twice j hj q)
        have HAp := Lib.hid HQ.out.apart
        have HFw := Lib.hid HQ.out.few
        have HFl := Lib.hid (fun j => Nat.le_trans (List.length_filter_le (fun s => decide (s = fi)) (ch.take j)) (List.length_take_le' j ch))
        generalize L ch.length = l0 at *
        generalize qn 2 p = t0 at *
        obtain ⟨ln, ld, le⟩ := l0
        obtain ⟨tn, td, te⟩ := t0
        unfold rrV at HM
        simp only at HM HY9 HY10 HAp HT HS hm2
        subst hm2
        have y0 := HY10.out.cell 0 _ rfl
        have y1 := HY10.out.cell 1 _ rfl
        clear hkn hm1 hlb HQ
        go_wp2_with fail
        refine HM.out.mono ?_
        rintro e w1 ⟨rfl, hb1⟩
        clear y0 y1
        have HY9 := Lib.hid ((HY9.out.below HY9.out.lt hb1).alloc (.cells #[.int .i64 tn, .int .i64 td] 82))
        have HY10 := Lib.hid ((HY10.out.below HY10.out.lt hb1).alloc (.cells #[.int .i64 tn, .int .i64 td] 82))
        have HYt := Lib.hid (Cel.new w1 82 #[.int .i64 tn, .int .i64 td])
        have HB3 := Lib.hid (HB.out.trans (hb1.mono HB.out.size))
        have HB4 := Lib.hid (HB3.out.alloc HB3.out.size (.cells #[.int .i64 tn, .int .i64 td] 82))
        clear hb1 HM HB HB3
        go_upto_region 21 with fail
        generalize w1.heap.size = Bt at *
        generalize w1.alloc (.cells #[.int .i64 tn, .int .i64 td] 82) = W3 at *
        clear hne hg9 hg10
        go_wp2
        go_loopw [11, 19] (fun tm ti wr => ∃ k : Nat, ti = .int .i64 k ∧ k ≤ ch.length ∧ tm = .int .i64 ((twoN fi (ch.take k) : Nat) : Int) ∧ Hid (Cel wr B9 82 #[.int .i64 1, .int .i64 1]) ∧ Hid (Cel wr B10 82 #[.int .i64 ln, .int .i64 ld]) ∧ Hid (Cel wr Bt 82 #[.int .i64 tn, .int .i64 td]) ∧ Hid (Below V.heap.size V wr)) (fun _ ti _ => ch.length - (intOf ti).toNat)
        case atStart => exact ⟨0, rfl, by omega, rfl, HY9, HY10, HYt, HB4⟩
        case round =>
          clear HY9 HY10 HYt HB4
          obtain ⟨k, rfl, hk, rfl, HY9, HY10, HYt, HB4⟩ := hrel
          have y0 := HY9.out.cell 0 _ rfl
          have y1 := HY9.out.cell 1 _ rfl
          have z0 := HY10.out.cell 0 _ rfl
          have z1 := HY10.out.cell 1 _ rfl
          have t0 := HYt.out.cell 0 _ rfl
          have t1 := HYt.out.cell 1 _ rfl
          by_cases hlt : k < ch.length
          · have hki : (k : Int) < (ch.length : Int) := by omega
            have k1 : (0 : Int) ≤ (k : Int) := by omega
            obtain ⟨_, d1, d2, _⟩ := HX.out _ HB4.out k hlt
            have HTk := Lib.hid (twoN_take (fi := fi) hlt)
            have hT : twoN fi (ch.take k) ≤ 400 := by have := HFl.out k; unfold twoN; omega
            have hw : IntKind.i64.wrap (((twoN fi (ch.take k) : Nat) : Int) + 1) = ((twoN fi (ch.take k) : Nat) : Int) + 1 := IntWalk.i64_in _ (by omega)
            by_cases hf : ch[k] = fi
            · have HTk' := Lib.hid (HTk.out.trans (by rw [if_pos hf]))
              rw [HT.out k hlt hf] at d1 d2
              simp only at d1 d2
              clear hf HTk
              have hap : tn ≠ ln ∨ (tn = ln ∧ td ≠ ld) := by
                have := HAp.out
                omega
              rcases hap with hap | ⟨hap, hap2⟩
              · have g1 : (tn == ln) = false := beq_eq_false_iff_ne.2 hap
                have g2 : decide (tn = ln) = false := decide_eq_false hap
                go_upto_region 24 with fail
                go_quiet (fail)
                go_upto_region 26 with fail
                go_quiet (fail)
                go_wp2
                go_roundw
                case rel => exact ⟨k + 1, by go_num, by omega, by rw [HTk'.out]; go_num, HY9, HY10, HYt, below_drewN HB4.out _⟩
                case measure => simp [intOf]; omega
              · have g1 : (td == ld) = false := beq_eq_false_iff_ne.2 hap2
                have g2 : decide (td = ld) = false := decide_eq_false hap2
                subst hap
                go_upto_region 24 with fail
                go_quiet (fail)
                go_upto_region 26 with fail
                go_quiet (fail)
                go_wp2
                go_roundw
                case rel => exact ⟨k + 1, by go_num, by omega, by rw [HTk'.out]; go_num, HY9, HY10, HYt, below_drewN HB4.out _⟩
                case measure => simp [intOf]; omega
            · have HTk' := Lib.hid (HTk.out.trans (by rw [if_neg hf, Nat.add_zero]))
              rw [HS.out k hlt hf] at d1 d2
              simp only at d1 d2
              clear hf HTk
              go_upto_region 24 with fail
              go_quiet (fail)
              go_wp2
              go_roundw
              case rel => exact ⟨k + 1, by go_num, by omega, by rw [HTk'.out], HY9, HY10, HYt, below_drewN HB4.out _⟩
              case measure => simp [intOf]; omega
          · have hki : ¬ ((k : Int) < (ch.length : Int)) := by omega
            have hkn : k = ch.length := by omega
            rw [hkn, List.take_length]
            have hT2 := HFw.out
            generalize twoN fi ch = T at *
            have hd : decide ((T : Int) ≤ 1) = true := decide_eq_true (by omega)
            clear hkn
            go_wp2_with fail
            refine (HWk.out _ (HB2.out.trans (HB4.out.mono HB2.out.size))).mono ?_
            rintro e w3 ⟨rfl, hb3⟩
            have HB5 := Lib.hid ((HB2.out.trans (HB4.out.mono HB2.out.size)).trans (hb3.mono (HB2.out.trans (HB4.out.mono HB2.out.size)).size))
            clear hb3
            go_wp2
            go_ret
            exact ⟨rfl, HB5.out⟩
set_option maxRecDepth 100000 in
set_option maxHeartbeats 4000000 in
theorem sharesSum_none (A : Option Addr) (c : Nat) (F : Option Addr) (d : Nat) (ps : List ByteArray) (fs : List Fa) (a : ByteArray) (w : World) (h : NetC w A ps.length c F fs.length d ps fs) (hs : Short ps) (hz : Zw w) (hc : namedF ps fs [a] = 0) (hch : childrenF fs a = []) (hh : heirsV ps fs a = ([], 0)) :
    Calls Tryd.prog 12 #[.agg #[.slice A ps.length c, .slice F fs.length d], .string a] w fun e w' => e = .returned (.bool true) ∧ Below w.heap.size w w' := by
  have hb0 := below_alloc' w (.cells #[.slice A ps.length c, .slice F fs.length d] 25)
  have y0 := Cel.new w 25 #[.slice A ps.length c, .slice F fs.length d]
  obtain ⟨W, hW⟩ : ∃ W, w.alloc (.cells #[.slice A ps.length c, .slice F fs.length d] 25) = W := ⟨_, rfl⟩
  rw [hW] at hb0 y0
  have HB0 := Lib.hid hb0
  have HY := Lib.hid y0
  have HWk := Lib.hid (fun w' hb => works_any w' (hz.below hb))
  have HH := Lib.hid (heirs_any A ps.length c F fs.length d ps fs a W (h.below hb0) (hz.below hb0) hs)
  rw [hh] at HH
  have HC := Lib.hid (fun w' (hw : Below w.heap.size w w') => pChildren_any A ps.length c F fs.length d ps fs a w' (h.below hw) hs)
  rw [hc, if_pos rfl, hch] at HC
  have z0 := y0.cell 0 _ rfl
  have z1 := y0.cell 1 _ rfl
  clear h hs hz hb0 y0 hh hc hch
  go_enter Tryd.func12, Tryd.ntmps12
  go_wp2_with fail
  refine HH.out.mono ?_
  rintro e w1 ⟨hb1, v, rfl, hv⟩
  obtain ⟨Av, nv, cv, rfl, hl0, _⟩ := hv
  obtain rfl : nv = 0 := by simp at hl0; omega
  clear z0 z1 hl0
  have HB1 := Lib.hid (HB0.out.trans (hb1.mono HB0.out.size))
  replace HY := Lib.hid (HY.out.below HY.out.lt hb1)
  have z0 := HY.out.cell 0 _ rfl
  have z1 := HY.out.cell 1 _ rfl
  clear hb1
  go_wp2_with fail
  clear z0 z1
  refine (HC.out _ HB1.out).mono ?_
  rintro e w2 ⟨hb2, v2, rfl, hv2⟩
  obtain ⟨Av2, nv2, cv2, rfl, hl2, _⟩ := hv2
  obtain rfl : nv2 = 0 := by simp [namesV] at hl2; omega
  have HB2 := Lib.hid (HB1.out.trans (hb2.mono HB1.out.size))
  clear hb2 hl2
  go_wp2_with fail
  refine (HWk.out _ HB2.out).mono ?_
  rintro e w3 ⟨rfl, hb3⟩
  have HB3 := Lib.hid (HB2.out.trans (hb3.mono HB2.out.size))
  clear hb3
  go_wp2
  go_ret
  exact ⟨rfl, HB3.out⟩
theorem sharesSum_any (A : Option Addr) (c : Nat) (F : Option Addr) (d : Nat) (ps : List ByteArray) (fs : List Fa) (a : ByteArray) (w : World) (h : NetC w A ps.length c F fs.length d ps fs) (hs : Short ps) (hz : Zw w) :
    Calls Tryd.prog 12 #[.agg #[.slice A ps.length c, .slice F fs.length d], .string a] w fun e w' => e = .returned (.bool true) ∧ Below w.heap.size w w' := by
  rcases namedF_cases ps fs [a] with hr | ⟨hc, hk, hp, hfew, hf, _⟩
  · exact sharesSum_err (namedF ps fs [a]) (by omega) A c F d ps fs a w h hs hz (by unfold heirsV; rw [if_pos (by omega)])
  · have hnm : namesOk ps = true := by
      rcases checkF_cases ps fs with q | q | q
      · omega
      · omega
      · exact q.2.2.2.1
    cases hsf : solveF ps fs with
    | none => exact sharesSum_err 101 (by omega) A c F d ps fs a w h hs hz (by unfold heirsV; rw [hc, if_neg (fun q => q rfl), hsf])
    | some D =>
      have hh : heirsV ps fs a = (sharesV (firstF (childrenF fs a) (elderF D ps (childrenF fs a) (childrenF fs a))) (partsF (childrenF fs a) (elderF D ps (childrenF fs a) (childrenF fs a))) (childrenF fs a), 0) := by
        unfold heirsV
        rw [hc, if_neg (fun q => q rfl), hsf]
      by_cases h0 : 0 < (childrenF fs a).length
      · have hl := Nat.le_trans (childrenF_length fs a) hfew
        obtain ⟨S, L, hq⟩ := shared_is (D := D) (ps := ps) (hs := childrenF fs a) (incS_nodup (setL_inc _)) (fun q => name_some hnm (childrenF_mem hf q)) h0 (by omega)
        exact sharesSum_good A c F d ps fs a w h hs hz hc _ rfl (by omega) _ _ S L hh hq h0
      · have he : childrenF fs a = [] := List.length_eq_zero_iff.1 (by omega)
        exact sharesSum_none A c F d ps fs a w h hs hz hc he (by rw [hh, he]; rfl)
theorem sharesSum_all (A : Option Addr) (n c : Nat) (F : Option Addr) (m d : Nat) (ps : List ByteArray) (fs : List Fa) (a : ByteArray) (w : World) (h : NetC w A n c F m d ps fs) (hs : Short ps) (hz : Zw w) :
    Calls Tryd.prog 12 #[.agg #[.slice A n c, .slice F m d], .string a] w fun e w' => e = .returned (.bool true) ∧ Below w.heap.size w w' := by
  obtain ⟨e1, e2, _⟩ := h.many
  subst e1
  subst e2
  exact sharesSum_any A c F d ps fs a w h hs hz
end
end Go.Proofs.YtdmcopjbckelmaaDoor
