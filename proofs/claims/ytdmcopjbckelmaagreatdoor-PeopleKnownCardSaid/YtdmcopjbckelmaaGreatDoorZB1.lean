/- Plain: what the search for a contradiction finds is a smallest one. No condition. Plain: which indices are kept. No condition. Walks of the package bullalaw10: kept. Conditions: those stated. -/
import Derived.Test.YtdmcopjbckelmaaGreatDoorZF
import Derived.Test.YtdmcopjbckelmaaGreatDoorZV2
import Derived.BigQuiet
namespace Go.Proofs.YtdmcopjbckelmaaGreatDoor
section
open Go Go.RowKit

theorem srch_sound {ps : List ByteArray} {fs : List Fa} : ∀ (d : Nat) (D : Mat) (set : List Nat) (i : Nat) (s : List Nat), solveF ps (selF fs set) = some D → srch ps fs d D set i = some s →
    ∃ t, s = set ++ t ∧ t.length = d + 1 ∧ t.Pairwise (· < ·) ∧ (∀ j ∈ t, i ≤ j ∧ j < fs.length) ∧ badL ps fs s = true := by
  intro d
  induction d with
  | zero =>
    intro D set i s e h
    rw [srch_eq] at h
    obtain ⟨j, hj, hs⟩ := List.exists_of_findSome?_eq_some h
    rw [List.mem_range'_1] at hj
    have hb := badL_snoc e j
    unfold srchAt at hs
    cases ha : amL D (boundsF ps (fs.getD j noFa)) with
    | none =>
      rw [ha] at hs hb
      simp only [if_true, Option.some.injEq] at hs
      subst hs
      exact ⟨[j], rfl, rfl, by simp, by simp; omega, hb⟩
    | some E => rw [ha] at hs; simp at hs
  | succ d ih =>
    intro D set i s e h
    rw [srch_eq] at h
    obtain ⟨j, hj, hs⟩ := List.exists_of_findSome?_eq_some h
    rw [List.mem_range'_1] at hj
    unfold srchAt at hs
    cases ha : amL D (boundsF ps (fs.getD j noFa)) with
    | none => rw [ha] at hs; simp at hs
    | some E =>
      rw [ha] at hs
      simp only [Nat.add_one_ne_zero, if_false, Nat.add_sub_cancel] at hs
      obtain ⟨t, h1, h2, h3, h4, h5⟩ := ih E (set ++ [j]) (j + 1) s (by rw [selF_snoc, solveF_snoc, e]; exact ha) hs
      refine ⟨j :: t, by rw [h1]; simp, by simp [h2], ?_, ?_, h5⟩
      · rw [List.pairwise_cons]
        exact ⟨fun x hx => by have := h4 x hx; omega, h3⟩
      · intro x hx
        rcases List.mem_cons.1 hx with rfl | q
        · omega
        · have := h4 x q; omega
theorem srch_none {ps : List ByteArray} {fs : List Fa} : ∀ (d : Nat) (D : Mat) (set : List Nat) (i : Nat), solveF ps (selF fs set) = some D → srch ps fs d D set i = none →
    ∀ t : List Nat, t.length = d + 1 → t.Pairwise (· < ·) → (∀ j ∈ t, i ≤ j ∧ j < fs.length) → (∀ k, k ≤ d → badL ps fs (set ++ t.take k) = false) → badL ps fs (set ++ t) = false := by
  intro d
  induction d with
  | zero =>
    intro D set i e h t ht _ hr _
    obtain ⟨j, rfl⟩ := List.length_eq_one_iff.1 ht
    rw [srch_eq, List.findSome?_eq_none_iff] at h
    have hj := hr j (by simp)
    have hs := h j (by rw [List.mem_range'_1]; omega)
    rw [badL_snoc e j]
    unfold srchAt at hs
    cases ha : amL D (boundsF ps (fs.getD j noFa)) with
    | none => rw [ha] at hs; simp at hs
    | some E => rfl
  | succ d ih =>
    intro D set i e h t ht hp hr hg
    obtain ⟨j, t, rfl⟩ : ∃ j t', t = j :: t' := by
      cases t with
      | nil => simp at ht
      | cons j t => exact ⟨j, t, rfl⟩
    rw [srch_eq, List.findSome?_eq_none_iff] at h
    have hj := hr j (by simp)
    have hs := h j (by rw [List.mem_range'_1]; omega)
    have h1 := hg 1 (by omega)
    simp only [List.take_succ_cons, List.take_zero] at h1
    rw [badL_snoc e j] at h1
    rw [List.pairwise_cons] at hp
    unfold srchAt at hs
    cases ha : amL D (boundsF ps (fs.getD j noFa)) with
    | none => rw [ha] at h1; simp at h1
    | some E =>
      rw [ha] at hs
      simp only [Nat.add_one_ne_zero, if_false, Nat.add_sub_cancel] at hs
      have := ih E (set ++ [j]) (j + 1) (by rw [selF_snoc, solveF_snoc, e]; exact ha) hs t (by simpa using ht) hp.2 (fun x hx => by
        have h2 := hp.1 x hx
        have h3 := hr x (by simp [hx])
        omega) (fun k hk => by
        have := hg (k + 1) (by omega)
        rw [List.take_succ_cons] at this
        rw [List.append_assoc]
        exact this)
      rw [List.append_assoc] at this
      exact this
theorem sel_none (ps : List ByteArray) (fs : List Fa) : solveF ps (selF fs []) = some (bornE ps.length 0 0) := rfl
/-- Strictly increasing indices of facts. -/
def IdxL (fs : List Fa) (l : List Nat) : Prop := l.Pairwise (· < ·) ∧ ∀ j ∈ l, j < fs.length
theorem all_good {ps : List ByteArray} {fs : List Fa} {M : Nat} (H : ∀ m, 1 ≤ m → m ≤ M → srch ps fs (m - 1) (bornE ps.length 0 0) [] 0 = none) : ∀ (n : Nat) (l : List Nat), l.length = n → n ≤ M → IdxL fs l → badL ps fs l = false := by
  intro n
  induction n using Nat.strongRecOn with
  | ind n ih =>
    intro l hl hn hi
    rcases Nat.eq_zero_or_pos n with q | q
    · subst q
      rw [List.length_eq_zero_iff.1 hl]
      rfl
    · have := srch_none (n - 1) _ [] 0 (sel_none ps fs) (H n q hn) l (by omega) hi.1 (fun j hj => ⟨Nat.zero_le _, hi.2 j hj⟩) (fun k hk => by
        have ht : (l.take k).length = k := by rw [List.length_take]; omega
        exact ih k (by omega) (l.take k) ht (by omega) ⟨hi.1.sublist (List.take_sublist k l), fun j hj => hi.2 j (List.mem_of_mem_take hj)⟩)
      simpa using this
theorem contr_none {ps : List ByteArray} {fs : List Fa} {most : Nat} (h : contrF ps fs most = none) {l : List Nat} (hi : IdxL fs l) (hl : l.length ≤ most) : badL ps fs l = false := by
  unfold contrF at h
  rw [List.findSome?_eq_none_iff] at h
  exact all_good (M := most) (fun m h1 h2 => h m (by rw [List.mem_range'_1]; omega)) _ l rfl hl hi
theorem contr_some {ps : List ByteArray} {fs : List Fa} {most : Nat} {x : List Nat} (h : contrF ps fs most = some x) :
    IdxL fs x ∧ 1 ≤ x.length ∧ x.length ≤ most ∧ badL ps fs x = true ∧ ∀ l, IdxL fs l → l.length < x.length → badL ps fs l = false := by
  unfold contrF at h
  rw [List.findSome?_eq_some_iff] at h
  obtain ⟨l1, a, l2, h1, h2, h3⟩ := h
  obtain ⟨k, hk, e1, e2⟩ := List.range'_eq_append_iff.1 h1
  have hlen : most - k = l2.length + 1 := by
    have := congrArg List.length e2
    simpa using this.symm
  have ha : a = 1 + k := by
    rw [hlen, List.range'_succ] at e2
    have := (List.cons.inj e2).1
    omega
  subst ha
  obtain ⟨t, q1, q2, q3, q4, q5⟩ := srch_sound _ _ _ _ _ (sel_none ps fs) h2
  rw [List.nil_append] at q1
  subst q1
  refine ⟨⟨q3, fun j hj => (q4 j hj).2⟩, by omega, by omega, q5, fun l hi hl => ?_⟩
  refine all_good (M := k) (fun m m1 m2 => h3 m ?_) _ l rfl (by omega) hi
  rw [e1, List.mem_range'_1]
  omega
end

section
open Go Go.RowKit

theorem idx_snoc {fs : List Fa} {x : List Nat} {j : Nat} (h : IdxL fs x) (hj : j < fs.length) (hl : ∀ y, x[x.length - 1]? = some y → y < j) : IdxL fs (x ++ [j]) := by
  refine ⟨?_, fun i hi => ?_⟩
  · rw [List.pairwise_append]
    refine ⟨h.1, by simp, fun a ha b hb => ?_⟩
    rw [List.mem_singleton.1 hb]
    rcases List.eq_nil_or_concat x with q | ⟨x', y, q⟩
    · subst q; cases ha
    · rw [List.concat_eq_append] at q
      subst q
      have hy := hl y (by simp)
      rcases List.mem_append.1 ha with r | r
      · have := (List.pairwise_append.1 h.1).2.2 a r y (by simp)
        omega
      · rw [List.mem_singleton.1 r]; exact hy
  · rcases List.mem_append.1 hi with q | q
    · exact h.2 i q
    · rw [List.mem_singleton.1 q]; exact hj
/-- The integers of indices. -/
def intL (x : List Nat) : List Int := x.map Int.ofNat
/-- Whether the list goes on well at an index. -/
def goesB (fs : List Fa) (l : List Int) (k : Nat) : Bool := decide (0 ≤ l.getD k 0) && decide (l.getD k 0 < (fs.length : Int)) && (decide (k = 0) || decide (l.getD (k - 1) 0 < l.getD k 0))
theorem kept_next {fs : List Fa} {l : List Int} {x : List Nat} {k : Nat} (hk : k < l.length) (hx : l.take k = intL x) (hi : IdxL fs x) (h : goesB fs l k = true) : ∃ j : Nat, l.getD k 0 = (j : Int) ∧ j < fs.length ∧ IdxL fs (x ++ [j]) ∧ l.take (k + 1) = intL (x ++ [j]) := by
  unfold goesB at h
  simp only [Bool.and_eq_true, Bool.or_eq_true, decide_eq_true_eq] at h
  obtain ⟨⟨h1, h2⟩, h3⟩ := h
  obtain ⟨j, hj⟩ := Int.eq_ofNat_of_zero_le h1
  have hxl : x.length = k := by
    have := congrArg List.length hx
    simp [intL] at this
    omega
  refine ⟨j, hj, by omega, idx_snoc hi (by omega) (fun y hy => ?_), ?_⟩
  · rcases Nat.eq_zero_or_pos k with q | q
    · subst q
      rw [List.length_eq_zero_iff.1 hxl] at hy
      simp at hy
    · have e : l[k - 1]? = some (y : Int) := by
        have e1 : (l.take k)[k - 1]? = l[k - 1]? := by rw [List.getElem?_take, if_pos (by omega)]
        rw [← e1, hx]
        unfold intL
        rw [List.getElem?_map, ← hxl, hy]
        rfl
      have e2 : l.getD (k - 1) 0 = (y : Int) := by rw [List.getD_eq_getElem?_getD, e]; rfl
      rw [e2, hj] at h3
      omega
  · have e : l[k]? = some (j : Int) := by
      rw [← hj, List.getD_eq_getElem?_getD, List.getElem?_eq_getElem hk]
      rfl
    rw [List.take_add_one, e, hx]
    simp [intL]
theorem kept_stop {fs : List Fa} {l : List Int} {k : Nat} (hk : k < l.length) (h : goesB fs l k = false) {y : List Nat} (hy : IdxL fs y) : l ≠ intL y := by
  intro e
  subst e
  have hk' : k < y.length := by simpa [intL] using hk
  have e1 : (intL y).getD k 0 = ((y[k] : Nat) : Int) := by
    rw [List.getD_eq_getElem?_getD]
    unfold intL
    rw [List.getElem?_map, List.getElem?_eq_getElem hk']
    rfl
  have h2 := hy.2 y[k] (List.getElem_mem hk')
  apply absurd h
  rw [Bool.not_eq_false]
  unfold goesB
  rw [e1]
  simp only [Bool.and_eq_true, Bool.or_eq_true, decide_eq_true_eq]
  refine ⟨⟨by omega, by omega⟩, ?_⟩
  rcases Nat.eq_zero_or_pos k with q | q
  · exact .inl q
  · right
    have hk1 : k - 1 < y.length := by omega
    have e2 : (intL y).getD (k - 1) 0 = ((y[k - 1] : Nat) : Int) := by
      rw [List.getD_eq_getElem?_getD]
      unfold intL
      rw [List.getElem?_map, List.getElem?_eq_getElem hk1]
      rfl
    rw [e2]
    have := List.pairwise_iff_getElem.1 hy.1 (k - 1) k hk1 hk' (by omega)
    omega
end

section
open Go Go.RowKit Go.Shelf
attribute [local go_sem] Oper.semAt_some

/-- What kept answers. -/
def KeptP (ps : List ByteArray) (A : Option Addr) (c : Nat) (fs : List Fa) (l : List Int) (w : World) (e : Ending) (w' : World) : Prop :=
  Below w.heap.size w w' ∧ ∃ (x : List Nat) (q : Bool) (A1 : Option Addr) (c1 : Nat), e = .returned (.tuple #[.agg #[.slice A ps.length c, .slice A1 x.length c1], .bool q]) ∧ Sl w' 4 (.slice A1 x.length c1) (fasV (selF fs x)) ∧ IdxL fs x ∧ (q = true → l = intL x) ∧ (∀ y, IdxL fs y → l = intL y → q = true)
theorem idx_length {fs : List Fa} {x : List Nat} (h : IdxL fs x) : x.length ≤ fs.length := by
  have hn : x.Nodup := h.1.imp (fun hab => Nat.ne_of_lt hab)
  have := hn.length_le_of_subset (l₂ := List.range fs.length) (fun j hj => List.mem_range.2 (h.2 j hj))
  simpa using this
end
end Go.Proofs.YtdmcopjbckelmaaGreatDoor
