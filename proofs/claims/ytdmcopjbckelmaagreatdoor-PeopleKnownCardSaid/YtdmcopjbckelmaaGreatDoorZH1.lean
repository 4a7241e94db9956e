/- Plain: least numbers of steps along a relation, and a table of them that is filled level by level. No condition. Plain: what the reference's Parents, Children, Ancestors and Kin find. No condition. -/
import Derived.Test.YtdmcopjbckelmaaGreatDoorZA2
import Derived.Test.YtdmcopjbckelmaaGreatDoorZM1
namespace Go.Proofs.YtdmcopjbckelmaaGreatDoor
section
open Go Go.RowKit Go.Shelf

/-- A way of so many steps. -/
def Lv (R : ByteArray → ByteArray → Prop) (a : ByteArray) : Nat → ByteArray → Prop
  | 0, t => t = a
  | k + 1, t => ∃ s, Lv R a k s ∧ R s t
/-- So many steps, and no fewer. -/
def Lst (R : ByteArray → ByteArray → Prop) (a : ByteArray) (k : Nat) (t : ByteArray) : Prop := Lv R a k t ∧ ∀ j, j < k → ¬ Lv R a j t
section
variable {R : ByteArray → ByteArray → Prop} {a : ByteArray}
theorem Lst.uniq {k j : Nat} {t : ByteArray} (h : Lst R a k t) (g : Lst R a j t) : k = j := by
  rcases Nat.lt_trichotomy k j with q | q | q
  · exact absurd h.1 (g.2 k q)
  · exact q
  · exact absurd g.1 (h.2 j q)
theorem Lv.least {t : ByteArray} : ∀ {k : Nat}, Lv R a k t → ∃ j, j ≤ k ∧ Lst R a j t := by
  intro k
  induction k using Nat.strongRecOn with
  | ind k ih =>
    intro h
    by_cases q : ∃ j, j < k ∧ Lv R a j t
    · obtain ⟨j, hj, hl⟩ := q
      obtain ⟨i, hi, hI⟩ := ih j hj hl
      exact ⟨i, by omega, hI⟩
    · exact ⟨k, Nat.le_refl _, h, fun j hj hl => q ⟨_, hj, hl⟩⟩
theorem Lst.start : Lst R a 0 a := ⟨rfl, fun _ hj => absurd hj (Nat.not_lt_zero _)⟩
theorem Lst.zero {t : ByteArray} (h : Lst R a 0 t) : t = a := h.1
/-- Who has so many steps has one before it. -/
theorem Lst.prev {k : Nat} {t : ByteArray} (h : Lst R a (k + 1) t) : ∃ s, Lst R a k s ∧ R s t := by
  obtain ⟨⟨s, hs, hr⟩, hn⟩ := h
  refine ⟨s, ⟨hs, fun j hj hl => ?_⟩, hr⟩
  exact hn (j + 1) (by omega) ⟨s, hl, hr⟩
theorem Lst.next {k : Nat} {s t : ByteArray} (h : Lst R a k s) (hr : R s t) (hn : ∀ j, j ≤ k → ¬ Lst R a j t) : Lst R a (k + 1) t := by
  refine ⟨⟨s, h.1, hr⟩, fun j hj hl => ?_⟩
  obtain ⟨i, hi, hI⟩ := hl.least
  exact hn i (by omega) hI
theorem Lst.chain {k : Nat} {t : ByteArray} (h : Lst R a k t) : ∀ j, j ≤ k → ∃ s, Lst R a j s := by
  induction k generalizing t with
  | zero => intro j hj; rw [show j = 0 by omega]; exact ⟨t, h⟩
  | succ k ih =>
    intro j hj
    rcases Nat.lt_or_ge k j with q | q
    · rw [show j = k + 1 by omega]; exact ⟨t, h⟩
    · obtain ⟨s, hs, _⟩ := h.prev
      exact ih hs j q
theorem Lst.mem {ps : List ByteArray} (ha : a ∈ ps) (hR : ∀ s t, R s t → t ∈ ps) {k : Nat} {t : ByteArray} (h : Lst R a k t) : t ∈ ps := by
  cases k with
  | zero => rw [h.zero]; exact ha
  | succ k => obtain ⟨s, _, hr⟩ := h.prev; exact hR s t hr
theorem Lst.lt {ps : List ByteArray} (ha : a ∈ ps) (hR : ∀ s t, R s t → t ∈ ps) {k : Nat} {t : ByteArray} (h : Lst R a k t) : k < ps.length := by
  have key : ∀ m, m ≤ k → ∃ l : List ByteArray, l.length = m + 1 ∧ l.Nodup ∧ (∀ s ∈ l, s ∈ ps) ∧ ∀ s ∈ l, ∃ j, j ≤ m ∧ Lst R a j s := by
    intro m
    induction m with
    | zero =>
      intro _
      exact ⟨[a], rfl, by simp, by simpa using ha, fun s hs => by rw [List.mem_singleton.1 hs]; exact ⟨0, Nat.le_refl _, Lst.start⟩⟩
    | succ m ih =>
      intro hm
      obtain ⟨l, h1, h2, h3, h4⟩ := ih (by omega)
      obtain ⟨s, hs⟩ := h.chain (m + 1) hm
      refine ⟨s :: l, by simp [h1], ?_, ?_, ?_⟩
      · rw [List.nodup_cons]
        refine ⟨fun hq => ?_, h2⟩
        obtain ⟨j, hj, hJ⟩ := h4 s hq
        have := hs.uniq hJ
        omega
      · intro x hx
        rcases List.mem_cons.1 hx with rfl | q
        · exact hs.mem ha hR
        · exact h3 x q
      · intro x hx
        rcases List.mem_cons.1 hx with rfl | q
        · exact ⟨m + 1, Nat.le_refl _, hs⟩
        · obtain ⟨j, hj, hJ⟩ := h4 x q
          exact ⟨j, by omega, hJ⟩
  obtain ⟨l, h1, h2, h3, _⟩ := key k (Nat.le_refl _)
  have := nodup_le h2 h3
  omega
/-- The table of steps while level k is being filled; D says which pairs have come. -/
def Tab (R : ByteArray → ByteArray → Prop) (a : ByteArray) (ps : List ByteArray) (k : Nat) (D : Nat → Nat → Prop) (out : List Int) : Prop :=
  out.length = ps.length ∧ ∀ m s, ps[m]? = some s → (∃ d : Nat, out[m]? = some (d : Int) ∧ d ≤ k + 1 ∧ Lst R a d s) ∨
    (out[m]? = some (-1) ∧ (∀ d, d ≤ k → ¬ Lst R a d s) ∧ ∀ i r, ps[i]? = some r → D i m → Lst R a k r → ¬ R r s)
theorem Tab.mono {ps : List ByteArray} {k : Nat} {D E : Nat → Nat → Prop} {out : List Int} (h : Tab R a ps k D out) (hE : ∀ i m, E i m → D i m) : Tab R a ps k E out := by
  refine ⟨h.1, fun m s hs => ?_⟩
  rcases h.2 m s hs with q | ⟨q1, q2, q3⟩
  · exact .inl q
  · exact .inr ⟨q1, q2, fun i r hi he => q3 i r hi (hE i m he)⟩
/-- What an entry says. -/
theorem Tab.level {ps : List ByteArray} {k : Nat} {D : Nat → Nat → Prop} {out : List Int} (h : Tab R a ps k D out) {m : Nat} {s : ByteArray} (hs : ps[m]? = some s) : out[m]? = some (k : Int) ↔ Lst R a k s := by
  rcases h.2 m s hs with ⟨d, q1, q2, q3⟩ | ⟨q1, q2, q3⟩
  · rw [q1]
    constructor
    · intro e
      have : (d : Int) = (k : Int) := Option.some.inj e
      rw [show k = d by omega]; exact q3
    · intro e; rw [q3.uniq e]
  · rw [q1]
    constructor
    · intro e
      have e2 : (-1 : Int) = (k : Int) := Option.some.inj e
      omega
    · intro e; exact absurd e (q2 k (Nat.le_refl _))
/-- A pair that does not change the table. -/
theorem Tab.skip {ps : List ByteArray} {k : Nat} {D E : Nat → Nat → Prop} {out : List Int} (h : Tab R a ps k D out) (i m : Nat) (hE : ∀ i' m', E i' m' → D i' m' ∨ (i' = i ∧ m' = m))
    (hn : ∀ r s, ps[i]? = some r → ps[m]? = some s → out[m]? = some (-1) → Lst R a k r → ¬ R r s) : Tab R a ps k E out := by
  refine ⟨h.1, fun m' s hs => ?_⟩
  rcases h.2 m' s hs with q | ⟨q1, q2, q3⟩
  · exact .inl q
  · refine .inr ⟨q1, q2, fun i' r hi he hl => ?_⟩
    rcases hE i' m' he with z | ⟨rfl, rfl⟩
    · exact q3 i' r hi z hl
    · exact hn r s hi hs q1 hl
/-- A pair that gives a step. -/
theorem Tab.take {ps : List ByteArray} {k : Nat} {D E : Nat → Nat → Prop} {out : List Int} (h : Tab R a ps k D out) {i m : Nat} {r s : ByteArray} (_hi : ps[i]? = some r) (hm : ps[m]? = some s) (hE : ∀ i' m', E i' m' → m' ≠ m → D i' m')
    (hl : Lst R a k r) (ho : out[m]? = some (-1)) (hr : R r s) : Tab R a ps k E (out.set m ((k : Int) + 1)) := by
  have hml : m < out.length := by
    rcases Nat.lt_or_ge m out.length with q | q
    · exact q
    · rw [List.getElem?_eq_none q] at ho; cases ho
  refine ⟨by rw [List.length_set]; exact h.1, fun m' s' hs => ?_⟩
  by_cases e : m = m'
  · subst e
    rw [hm] at hs
    cases hs
    left
    refine ⟨k + 1, by rw [List.getElem?_set_self hml]; simp, Nat.le_refl _, ?_⟩
    rcases h.2 m s hm with ⟨d, q1, _, _⟩ | ⟨_, q2, _⟩
    · rw [ho] at q1
      have e2 : (-1 : Int) = (d : Int) := Option.some.inj q1
      omega
    · exact hl.next hr q2
  · rw [List.getElem?_set_ne e]
    rcases h.2 m' s' hs with q | ⟨q1, q2, q3⟩
    · exact .inl q
    · exact .inr ⟨q1, q2, fun i' r' hi' he => q3 i' r' hi' (hE i' m' he (fun z => e z.symm))⟩
/-- The next level. -/
theorem Tab.up {ps : List ByteArray} {k : Nat} {D : Nat → Nat → Prop} {out : List Int} (h : Tab R a ps k D out) (hD : ∀ i m, i < ps.length → m < ps.length → D i m) (ha : a ∈ ps) (hR : ∀ s t, R s t → t ∈ ps) : Tab R a ps (k + 1) (fun _ _ => False) out := by
  refine ⟨h.1, fun m s hs => ?_⟩
  rcases h.2 m s hs with ⟨d, q1, q2, q3⟩ | ⟨q1, q2, q3⟩
  · exact .inl ⟨d, q1, by omega, q3⟩
  · refine .inr ⟨q1, fun d hd hl => ?_, fun _ _ _ hf => hf.elim⟩
    rcases Nat.lt_or_ge k d with z | z
    · have ed : d = k + 1 := by omega
      subst ed
      obtain ⟨r, hr, hrs⟩ := hl.prev
      obtain ⟨i, hi⟩ := List.mem_iff_getElem?.1 (hr.mem ha hR)
      have hil : i < ps.length := by
        rcases Nat.lt_or_ge i ps.length with y | y
        · exact y
        · rw [List.getElem?_eq_none y] at hi; cases hi
      have hml : m < ps.length := by
        rcases Nat.lt_or_ge m ps.length with y | y
        · exact y
        · rw [List.getElem?_eq_none y] at hs; cases hs
      exact q3 i r hi (hD i m hil hml) hr hrs
    · exact q2 d z hl
/-- The first table. -/
theorem Tab.start {ps : List ByteArray} {out : List Int} (hl : out.length = ps.length) (h : ∀ (m : Nat) (s : ByteArray), ps[m]? = some s → out[m]? = some (if s = a then 0 else -1)) : Tab R a ps 0 (fun _ _ => False) out := by
  refine ⟨hl, fun m s hs => ?_⟩
  have := h m s hs
  by_cases e : s = a
  · subst e
    rw [if_pos rfl] at this
    exact .inl ⟨0, this, by omega, Lst.start⟩
  · rw [if_neg e] at this
    refine .inr ⟨this, fun d hd hq => ?_, fun _ _ _ hf => hf.elim⟩
    rw [show d = 0 by omega] at hq
    exact e hq.zero
/-- The last table: all steps that there are. -/
theorem Tab.all {ps : List ByteArray} {k : Nat} {D : Nat → Nat → Prop} {out : List Int} (h : Tab R a ps k D out) (hk : ps.length ≤ k) (ha : a ∈ ps) (hR : ∀ s t, R s t → t ∈ ps) {m : Nat} {s : ByteArray} (hs : ps[m]? = some s) :
    (∃ d : Nat, out[m]? = some (d : Int) ∧ Lst R a d s) ∨ (out[m]? = some (-1) ∧ ∀ d, ¬ Lv R a d s) := by
  rcases h.2 m s hs with ⟨d, q1, _, q3⟩ | ⟨q1, q2, _⟩
  · exact .inl ⟨d, q1, q3⟩
  · refine .inr ⟨q1, fun d hd => ?_⟩
    obtain ⟨j, _, hj⟩ := hd.least
    have := hj.lt ha hR
    exact q2 j (by omega) hj
end
/-- The program's steps up are the least ones. -/
def Par (fs : List Fa) (s t : ByteArray) : Prop := t ∈ parentsF fs s
theorem abS_new {fs : List Fa} {k : Nat} : ∀ (l : List ByteArray) (m : Sm) (nx : List ByteArray),
    (∀ p ∈ (abS fs k l m nx).1, p ∈ m ∨ (p.2 = k ∧ p.1 ∈ l ∧ ¬ p.1 ∈ m.map (·.1))) ∧ (∀ t ∈ (abS fs k l m nx).2, t ∈ nx ∨ ∃ s, s ∈ l ∧ (¬ s ∈ m.map (·.1)) ∧ t ∈ parentsF fs s) := by
  intro l
  induction l with
  | nil => intro m nx; exact ⟨fun p hp => .inl hp, fun t ht => .inl ht⟩
  | cons x l ih =>
    intro m nx
    simp only [abS]
    split
    · obtain ⟨i1, i2⟩ := ih m nx
      refine ⟨fun p hp => ?_, fun t ht => ?_⟩
      · rcases i1 p hp with q | ⟨q1, q2, q3⟩
        · exact .inl q
        · exact .inr ⟨q1, by simp [q2], q3⟩
      · rcases i2 t ht with q | ⟨s, q1, q2, q3⟩
        · exact .inl q
        · exact .inr ⟨s, by simp [q1], q2, q3⟩
    · next hx =>
      have hx' : ¬ x ∈ m.map (·.1) := fun q => hx (hasN_iff.2 q)
      obtain ⟨i1, i2⟩ := ih (m ++ [(x, k)]) (nx ++ parentsF fs x)
      refine ⟨fun p hp => ?_, fun t ht => ?_⟩
      · rcases i1 p hp with q | ⟨q1, q2, q3⟩
        · rcases List.mem_append.1 q with z | z
          · exact .inl z
          · rw [List.mem_singleton.1 z]; exact .inr ⟨rfl, by simp, hx'⟩
        · refine .inr ⟨q1, by simp [q2], fun z => q3 ?_⟩
          rw [List.map_append, List.mem_append]; exact .inl z
      · rcases i2 t ht with q | ⟨s, q1, q2, q3⟩
        · rcases List.mem_append.1 q with z | z
          · exact .inl z
          · exact .inr ⟨x, by simp, hx', z⟩
        · refine .inr ⟨s, by simp [q1], fun z => q2 ?_, q3⟩
          rw [List.map_append, List.mem_append]; exact .inl z
theorem abI_lst (fs : List Fa) (a : ByteArray) : ∀ i, (∀ s k, (s, k) ∈ (abI fs [a] i).1 ↔ k < i ∧ Lst (Par fs) a k s) ∧ (∀ t ∈ (abI fs [a] i).2, Lv (Par fs) a i t) ∧ ∀ t, Lst (Par fs) a i t → t ∈ (abI fs [a] i).2 := by
  intro i
  induction i with
  | zero =>
    refine ⟨fun s k => ⟨fun h => by simp [abI] at h, fun h => by omega⟩, fun t ht => ?_, fun t ht => ?_⟩
    · exact (show t = a by simpa [abI] using ht)
    · rw [ht.zero]; simp [abI]
  | succ i ih =>
    obtain ⟨i1, i2, i3⟩ := ih
    obtain ⟨a1, a2, a3, a4⟩ := abS_all (fs := fs) (k := i) (abI fs [a] i).2 (abI fs [a] i).1 []
    obtain ⟨n1, n2⟩ := abS_new (fs := fs) (k := i) (abI fs [a] i).2 (abI fs [a] i).1 []
    have hmem : ∀ s, s ∈ ((abI fs [a] i).1).map (·.1) ↔ ∃ k, k < i ∧ Lst (Par fs) a k s := by
      intro s
      constructor
      · intro h
        obtain ⟨p, hp, e⟩ := List.mem_map.1 h
        obtain ⟨q1, q2⟩ := (i1 p.1 p.2).1 hp
        exact ⟨p.2, q1, e ▸ q2⟩
      · rintro ⟨k, h1, h2⟩
        exact List.mem_map.2 ⟨(s, k), (i1 s k).2 ⟨h1, h2⟩, rfl⟩
    have hnew : ∀ s, s ∈ (abI fs [a] i).2 → (¬ s ∈ ((abI fs [a] i).1).map (·.1)) → Lst (Par fs) a i s := by
      intro s h1 h2
      refine ⟨i2 s h1, fun j hj hl => ?_⟩
      obtain ⟨m, hm, hM⟩ := hl.least
      exact h2 ((hmem s).2 ⟨m, by omega, hM⟩)
    show (∀ s k, (s, k) ∈ (abS fs i (abI fs [a] i).2 (abI fs [a] i).1 []).1 ↔ _) ∧ (∀ t ∈ (abS fs i (abI fs [a] i).2 (abI fs [a] i).1 []).2, _) ∧ ∀ t, _ → t ∈ (abS fs i (abI fs [a] i).2 (abI fs [a] i).1 []).2
    refine ⟨fun s k => ⟨fun h => ?_, fun h => ?_⟩, fun t ht => ?_, fun t ht => ?_⟩
    · rcases n1 _ h with q | ⟨q1, q2, q3⟩
      · obtain ⟨z1, z2⟩ := (i1 s k).1 q
        exact ⟨by omega, z2⟩
      · simp only at q1 q2 q3
        subst q1
        exact ⟨by omega, hnew s q2 q3⟩
    · obtain ⟨h1, h2⟩ := h
      rcases Nat.lt_or_ge k i with q | q
      · exact a1 _ ((i1 s k).2 ⟨q, h2⟩)
      · have ek : k = i := by omega
        subst ek
        obtain ⟨p, hp, e⟩ := List.mem_map.1 (a3 s (i3 s h2))
        rcases n1 p hp with z | ⟨z1, z2, z3⟩
        · obtain ⟨y1, y2⟩ := (i1 p.1 p.2).1 z
          have := (e ▸ y2 : Lst (Par fs) a p.2 s).uniq h2
          omega
        · have : p = (s, k) := by rw [← e, ← z1]
          rw [← this]; exact hp
    · rcases n2 t ht with q | ⟨s, q1, q2, q3⟩
      · simp at q
      · exact ⟨s, i2 s q1, q3⟩
    · obtain ⟨s, hs, hr⟩ := ht.prev
      obtain ⟨p, hp, e⟩ := List.mem_map.1 (a3 s (i3 s hs))
      rcases a4 p hp with z | ⟨_, _, z3⟩
      · obtain ⟨y1, y2⟩ := (i1 p.1 p.2).1 z
        have := (e ▸ y2 : Lst (Par fs) a p.2 s).uniq hs
        omega
      · exact z3 t (e ▸ hr)
/-- The steps of the whole map. -/
theorem abI_step {fs : List Fa} {a : ByteArray} {i : Nat} (h : (abI fs [a] i).2 = []) (s : ByteArray) (k : Nat) : stepOf (abI fs [a] i).1 s = some k ↔ Lst (Par fs) a k s := by
  constructor
  · intro e; exact ((abI_lst fs a i).1 s k).1 (stepOf_mem e) |>.2
  · intro e
    refine mem_stepOf (abI_once i) ?_
    have e2 : (abI fs [a] (i + (k + 1))).1 = (abI fs [a] i).1 := by rw [abI_stay h]
    rw [← e2]
    exact ((abI_lst fs a _).1 s k).2 ⟨by omega, e⟩
end

section
open Go Go.RowKit Go.Shelf

/-- Is b a parent of a? -/
def parB (fs : List Fa) (a b : ByteArray) : Bool := fs.any fun f => decide (f.kind = 1) && (decide (f.a = a) && decide (f.b = b))
theorem parB_iff {fs : List Fa} {a b : ByteArray} : parB fs a b = true ↔ b ∈ parentsF fs a := by
  unfold parB parentsF
  rw [mem_setL, List.any_eq_true]
  unfold parentsL
  rw [List.mem_map]
  constructor
  · rintro ⟨f, hf, h⟩
    simp only [Bool.and_eq_true, decide_eq_true_eq] at h
    exact ⟨f, List.mem_filter.2 ⟨hf, by simp [h.1, h.2.1]⟩, h.2.2⟩
  · rintro ⟨f, hf, h⟩
    obtain ⟨h1, h2⟩ := List.mem_filter.1 hf
    simp only [Bool.and_eq_true, decide_eq_true_eq] at h2
    exact ⟨f, h1, by simp [h2.1, h2.2, h]⟩
theorem parB_child {fs : List Fa} {a b : ByteArray} : parB fs a b = true ↔ a ∈ childrenF fs b := by rw [parB_iff, parent_child]
theorem incS_of {ps : List ByteArray} (h : namesOk ps = true) : IncS ps := by
  have := (namesOk_iff.1 h).2
  unfold IncS IncB bytesL
  rw [List.pairwise_map]
  refine this.imp ?_
  intro s t hst
  rw [ByteArray.toList_eq, ByteArray.toList_eq] at hst
  exact hst
theorem incS_filter {ps : List ByteArray} (h : IncS ps) (p : ByteArray → Bool) : IncS (ps.filter p) := by
  unfold IncS IncB bytesL at *
  exact List.Pairwise.sublist ((List.filter_sublist (l := ps) (p := p)).map _) h
/-- The reference's parents, in the order of the people. -/
theorem parents_ref {ps : List ByteArray} {fs : List Fa} (hn : namesOk ps = true) (h : AllAbout ps fs) (a : ByteArray) : ps.filter (fun s => parB fs a s) = parentsF fs a := by
  refine incS_ext (incS_filter (incS_of hn) _) (setL_inc _) fun x => ?_
  rw [List.mem_filter, parB_iff]
  exact ⟨fun q => q.2, fun q => ⟨parentsF_mem h q, q⟩⟩
theorem children_ref {ps : List ByteArray} {fs : List Fa} (hn : namesOk ps = true) (h : AllAbout ps fs) (a : ByteArray) : ps.filter (fun s => parB fs s a) = childrenF fs a := by
  refine incS_ext (incS_filter (incS_of hn) _) (setL_inc _) fun x => ?_
  rw [List.mem_filter, parB_child]
  exact ⟨fun q => q.2, fun q => ⟨childrenF_mem h q, q⟩⟩
theorem lv_up {fs : List Fa} {a : ByteArray} : ∀ {k : Nat} {t : ByteArray}, Lv (Par fs) a k t → Up fs a t := by
  intro k
  induction k with
  | zero => intro t h; rw [show t = a from h]; exact .here a
  | succ k ih => rintro t ⟨s, hs, hr⟩; exact (ih hs).step hr
theorem up_lv {fs : List Fa} {a t : ByteArray} (h : Up fs a t) : ∃ k, Lv (Par fs) a k t := by
  induction h with
  | here => exact ⟨0, rfl⟩
  | step _ hp ih => obtain ⟨k, hk⟩ := ih; exact ⟨k + 1, _, hk, hp⟩
theorem par_mem {ps : List ByteArray} {fs : List Fa} (h : AllAbout ps fs) : ∀ s t, Par fs s t → t ∈ ps := fun _ _ q => parentsF_mem h q
/-- A table of steps of a person, complete. -/
def StT (ps : List ByteArray) (fs : List Fa) (a : ByteArray) (out : List Int) : Prop :=
  out.length = ps.length ∧ ∀ (m : Nat) (s : ByteArray), ps[m]? = some s → (∃ d : Nat, out[m]? = some (d : Int) ∧ Lst (Par fs) a d s) ∨ (out[m]? = some (-1) ∧ ∀ d, ¬ Lv (Par fs) a d s)
theorem StT.up {ps : List ByteArray} {fs : List Fa} {a : ByteArray} {out : List Int} (h : StT ps fs a out) {m : Nat} {s : ByteArray} {x : Int} (hs : ps[m]? = some s) (hx : out[m]? = some x) : 0 ≤ x ↔ Up fs a s := by
  rcases h.2 m s hs with ⟨d, q1, q2⟩ | ⟨q1, q2⟩
  · rw [hx] at q1
    have : x = (d : Int) := by simpa using q1
    subst this
    exact ⟨fun _ => lv_up q2.1, fun _ => Int.natCast_nonneg d⟩
  · rw [hx] at q1
    have : x = -1 := by simpa using q1
    subst this
    refine ⟨fun q => absurd q (by decide), fun q => ?_⟩
    obtain ⟨k, hk⟩ := up_lv q
    exact absurd hk (q2 k)
theorem StT.dist {ps : List ByteArray} {fs : List Fa} {a : ByteArray} {out : List Int} (h : StT ps fs a out) {m : Nat} {s : ByteArray} {x : Int} (hs : ps[m]? = some s) (hx : out[m]? = some x) (d : Nat) : x = (d : Int) ↔ Lst (Par fs) a d s := by
  rcases h.2 m s hs with ⟨e, q1, q2⟩ | ⟨q1, q2⟩
  · rw [hx] at q1
    have : x = (e : Int) := by simpa using q1
    subst this
    constructor
    · intro q; rw [show d = e by omega]; exact q2
    · intro q; rw [q.uniq q2]
  · rw [hx] at q1
    have : x = -1 := by simpa using q1
    subst this
    exact ⟨fun q => by omega, fun q => absurd q.1 (q2 d)⟩
/-- The reference's best index so far. -/
def RBest (x y : List Int) (m : Nat) (best : Int) : Prop :=
  (best = -1 ∧ ∀ i, i < m → x.getD i 0 < 0 ∨ y.getD i 0 < 0) ∨
  (∃ b : Nat, best = (b : Int) ∧ b < m ∧ 0 ≤ x.getD b 0 ∧ 0 ≤ y.getD b 0 ∧ ∀ i, i < m → 0 ≤ x.getD i 0 → 0 ≤ y.getD i 0 → x.getD b 0 + y.getD b 0 < x.getD i 0 + y.getD i 0 ∨ (x.getD b 0 + y.getD b 0 = x.getD i 0 + y.getD i 0 ∧ x.getD b 0 ≤ x.getD i 0))
theorem RBest.start (x y : List Int) : RBest x y 0 (-1) := .inl ⟨rfl, fun _ hi => absurd hi (Nat.not_lt_zero _)⟩
theorem RBest.no {x y : List Int} {m : Nat} {best : Int} (h : RBest x y m best) (hn : x.getD m 0 < 0 ∨ y.getD m 0 < 0) : RBest x y (m + 1) best := by
  rcases h with ⟨h1, h2⟩ | ⟨b, h1, h2, h3, h4, h5⟩
  · refine .inl ⟨h1, fun i hi => ?_⟩
    rcases Nat.lt_succ_iff_lt_or_eq.1 hi with q | q
    · exact h2 i q
    · rw [q]; exact hn
  · refine .inr ⟨b, h1, by omega, h3, h4, fun i hi p q => ?_⟩
    rcases Nat.lt_succ_iff_lt_or_eq.1 hi with z | z
    · exact h5 i z p q
    · rw [z] at p q; omega
theorem RBest.first {x y : List Int} {m : Nat} (h : RBest x y m (-1)) (h1 : 0 ≤ x.getD m 0) (h2 : 0 ≤ y.getD m 0) : RBest x y (m + 1) (m : Int) := by
  rcases h with ⟨_, g⟩ | ⟨b, e, _⟩
  · refine .inr ⟨m, rfl, by omega, h1, h2, fun i hi p q => ?_⟩
    rcases Nat.lt_succ_iff_lt_or_eq.1 hi with z | z
    · have := g i z; omega
    · rw [z]; exact .inr ⟨rfl, Int.le_refl _⟩
  · omega
theorem RBest.stay {x y : List Int} {m b : Nat} (h : RBest x y m (b : Int)) (hn : ¬ (x.getD m 0 + y.getD m 0 < x.getD b 0 + y.getD b 0)) (hn2 : ¬ (x.getD m 0 + y.getD m 0 = x.getD b 0 + y.getD b 0 ∧ x.getD m 0 < x.getD b 0)) : RBest x y (m + 1) (b : Int) := by
  rcases h with ⟨e, _⟩ | ⟨b', e, h2, h3, h4, h5⟩
  · omega
  · obtain rfl : b = b' := by omega
    refine .inr ⟨b, rfl, by omega, h3, h4, fun i hi p q => ?_⟩
    rcases Nat.lt_succ_iff_lt_or_eq.1 hi with z | z
    · exact h5 i z p q
    · rw [z]; omega
theorem RBest.better {x y : List Int} {m b : Nat} (h : RBest x y m (b : Int)) (h1 : 0 ≤ x.getD m 0) (h2 : 0 ≤ y.getD m 0) (hb : x.getD m 0 + y.getD m 0 < x.getD b 0 + y.getD b 0 ∨ (x.getD m 0 + y.getD m 0 = x.getD b 0 + y.getD b 0 ∧ x.getD m 0 < x.getD b 0)) : RBest x y (m + 1) (m : Int) := by
  rcases h with ⟨e, _⟩ | ⟨b', e, g2, g3, g4, g5⟩
  · omega
  · obtain rfl : b = b' := by omega
    refine .inr ⟨m, rfl, by omega, h1, h2, fun i hi p q => ?_⟩
    rcases Nat.lt_succ_iff_lt_or_eq.1 hi with z | z
    · have := g5 i z p q; omega
    · rw [z]; exact .inr ⟨rfl, Int.le_refl _⟩
/-- Both find the same nearest one. -/
theorem kin_ref {ps : List ByteArray} {fs : List Fa} {a b : ByteArray} {iA iB up dn : Nat} {fd : Bool} {x y : List Int} {best : Int} (hf : AllAbout ps fs) (ha : a ∈ ps) (h1 : (abI fs [a] iA).2 = []) (h2 : (abI fs [b] iB).2 = []) (hk : BestP (abI fs [a] iA).1 (abI fs [b] iB).1 fd up dn)
    (hx : StT ps fs a x) (hy : StT ps fs b y) (hr : RBest x y ps.length best) : (fd = false → best = -1) ∧ (fd = true → ∃ k : Nat, best = (k : Int) ∧ k < ps.length ∧ x.getD k 0 = (up : Int) ∧ y.getD k 0 = (dn : Int)) := by
  have gx : ∀ i, i < ps.length → ∃ s, ps[i]? = some s ∧ x[i]? = some (x.getD i 0) ∧ y[i]? = some (y.getD i 0) := fun i hi => by
    refine ⟨ps[i], List.getElem?_eq_getElem hi, ?_, ?_⟩
    · rw [List.getD_eq_getElem?_getD, List.getElem?_eq_getElem (by rw [hx.1]; exact hi)]; rfl
    · rw [List.getD_eq_getElem?_getD, List.getElem?_eq_getElem (by rw [hy.1]; exact hi)]; rfl
  constructor
  · intro e
    rcases hr with ⟨r1, _⟩ | ⟨k, _, r2, r3, r4, _⟩
    · exact r1
    · exfalso
      obtain ⟨s, s1, s2, s3⟩ := gx k r2
      have u1 := (hx.up s1 s2).1 r3
      have u2 := (hy.up s1 s3).1 r4
      have := (kin_found h1 h2 hk).2 ⟨s, u1, u2⟩
      rw [e] at this; cases this
  · intro e
    obtain ⟨s, q1, q2⟩ := kin_is hk e
    have l1 := (abI_step h1 s up).1 (mem_stepOf (abI_once iA) q1)
    have l2 := (abI_step h2 s dn).1 (mem_stepOf (abI_once iB) q2)
    have hs : s ∈ ps := l1.mem ha (par_mem hf)
    obtain ⟨i, hi⟩ := List.mem_iff_getElem?.1 hs
    have hil : i < ps.length := by
      rcases Nat.lt_or_ge i ps.length with z | z
      · exact z
      · rw [List.getElem?_eq_none z] at hi; cases hi
    obtain ⟨s', s1, s2, s3⟩ := gx i hil
    rw [hi] at s1
    cases s1
    have xi := (hx.dist hi s2 up).2 l1
    have yi := (hy.dist hi s3 dn).2 l2
    rcases hr with ⟨_, r1⟩ | ⟨k, r1, r2, r3, r4, r5⟩
    · have := r1 i hil; omega
    · refine ⟨k, r1, r2, ?_⟩
      have hm := r5 i hil (by omega) (by omega)
      obtain ⟨t, t1, t2, t3⟩ := gx k r2
      obtain ⟨p, hp⟩ := Int.eq_ofNat_of_zero_le r3
      obtain ⟨q, hq⟩ := Int.eq_ofNat_of_zero_le r4
      have m1 := (hx.dist t1 t2 p).1 hp
      have m2 := (hy.dist t1 t3 q).1 hq
      have b1 := stepOf_mem ((abI_step h1 t p).2 m1)
      have b2 := (abI_step h2 t q).2 m2
      have := (hk.2 e).2 (t, p) b1 q b2
      simp only at this
      omega
end
end Go.Proofs.YtdmcopjbckelmaaGreatDoor
