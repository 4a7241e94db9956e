/- Plain: the reference's way to merge two people, and to a contradiction. No condition. -/
import Derived.Test.YtdmcopjbckelmaaGreatDoorZH1
import Derived.Test.YtdmcopjbckelmaaGreatDoorZB1
import Derived.Test.YtdmcopjbckelmaaGreatDoorZR1
import Derived.Test.YtdmcopjbckelmaaGreatDoorZM1
namespace Go.Proofs.YtdmcopjbckelmaaGreatDoor
open Go Go.RowKit Go.Shelf

theorem names_ne {ps : List ByteArray} (hn : namesOk ps = true) {s : ByteArray} (h : s ∈ ps) : s ≠ ByteArray.empty := nameB_ne ((namesOk_iff.1 hn).1 s h)
theorem ren_same {ps : List ByteArray} {a b : ByteArray} {f : Fa} (hn : namesOk ps = true) (ha : a ∈ ps) (hb : b ∈ ps) (hf : aboutB ps f = true) (hab : a ≠ b) : (renF a b f).a = (renF a b f).b ↔ bothB a b f = true := by
  obtain ⟨h1, h2, h3, h4⟩ := aboutB_iff.1 hf
  unfold bothB renF
  simp only
  by_cases k : f.kind ≤ 3
  · have hp : pairB f.kind = true := decide_eq_true (by omega)
    have hne := (h3 k).1
    rw [hp, Bool.true_and, Bool.or_eq_true, decide_eq_true_eq, decide_eq_true_eq]
    rcases renS_of (a := a) (b := b) (s := f.a) with ⟨e1, e2⟩ | ⟨e1, e2⟩ <;> rcases renS_of (a := a) (b := b) (s := f.b) with ⟨g1, g2⟩ | ⟨g1, g2⟩ <;> rw [e2, g2]
    · exact ⟨fun _ => absurd (g1.trans e1.symm) hne, fun q => by rcases q with q | q; exact absurd (q.1.symm.trans e1) hab; exact absurd (q.2.symm.trans g1) hab⟩
    · exact ⟨fun q => .inr ⟨e1, q.symm⟩, fun q => by rcases q with q | q; exact absurd (q.1.symm.trans e1) hab; exact q.2.symm⟩
    · exact ⟨fun q => .inl ⟨q, g1⟩, fun q => by rcases q with q | q; exact q.1; exact absurd q.1 e1⟩
    · exact ⟨fun q => absurd q.symm hne, fun q => by rcases q with q | q; exact absurd q.2 g1; exact absurd q.1 e1⟩
  · have hp : pairB f.kind = false := decide_eq_false (by omega)
    rw [hp, Bool.false_and]
    obtain ⟨hb0, _⟩ := h4 k
    have be := names_ne hn hb
    have ae := names_ne hn ha
    have fe := names_ne hn h2
    refine ⟨fun q => ?_, fun q => by cases q⟩
    exfalso
    rcases renS_of (a := a) (b := b) (s := f.b) with ⟨g1, g2⟩ | ⟨g1, g2⟩
    · exact be (g1.symm.trans hb0)
    · rw [g2, hb0] at q
      rcases renS_of (a := a) (b := b) (s := f.a) with ⟨e1, e2⟩ | ⟨e1, e2⟩
      · rw [e2] at q; exact ae q
      · rw [e2] at q; exact fe q
/-- The facts as the reference merges them. -/
def rmergeF (a b : ByteArray) (fs : List Fa) : List Fa := (fs.map (renF a b)).filter fun f => !decide (f.a = f.b)
theorem merge_ref {ps : List ByteArray} {a b : ByteArray} {fs gs : List Fa} (hn : namesOk ps = true) (ha : a ∈ ps) (hb : b ∈ ps) (hf : AllAbout ps fs) (hab : a ≠ b) (h : mergeF a b fs = some gs) : rmergeF a b fs = gs := by
  induction fs generalizing gs with
  | nil => cases h; rfl
  | cons f l ih =>
    have ihf : AllAbout ps l := fun g hg => hf g (by simp [hg])
    have key := ren_same hn ha hb (hf f (by simp)) hab
    unfold mergeF at h
    unfold rmergeF at ih ⊢
    rw [List.map_cons, List.filter_cons]
    by_cases q : bothB a b f = true
    · rw [if_pos q] at h
      rw [if_neg (by simp [key.2 q])]
      by_cases k : f.kind = 1
      · rw [if_pos k] at h; cases h
      · rw [if_neg k] at h
        exact ih ihf h
    · rw [if_neg q] at h
      rw [if_pos (by simp only [Bool.not_eq_true', decide_eq_false_iff_not]; exact fun e => q (key.1 e))]
      obtain ⟨ms, hm, rfl⟩ := Option.map_eq_some_iff.1 h
      rw [ih ihf hm]
theorem merge_par {a b : ByteArray} {fs : List Fa} : (parB fs a b || parB fs b a) = (mergeF a b fs).isNone := by
  rw [Bool.eq_iff_iff, Option.isNone_iff_eq_none, mergeF_none, Bool.or_eq_true]
  unfold parB bothB
  simp only [List.any_eq_true, Bool.and_eq_true, decide_eq_true_eq, Bool.or_eq_true]
  constructor
  · rintro (⟨f, h1, h2, h3, h4⟩ | ⟨f, h1, h2, h3, h4⟩)
    · exact ⟨f, h1, ⟨decide_eq_true (by omega), .inl ⟨h3, h4⟩⟩, h2⟩
    · exact ⟨f, h1, ⟨decide_eq_true (by omega), .inr ⟨h3, h4⟩⟩, h2⟩
  · rintro ⟨f, h1, ⟨_, h2 | h2⟩, h3⟩
    · exact .inl ⟨f, h1, h3, h2.1, h2.2⟩
    · exact .inr ⟨f, h1, h3, h2.1, h2.2⟩
/-- The people whom facts name. -/
def nmF (ps : List ByteArray) (fs : List Fa) : List ByteArray := ps.filter fun s => fs.any fun f => decide (f.a = s) || decide (f.b = s)
theorem nmF_mem {ps : List ByteArray} {fs : List Fa} {s : ByteArray} : s ∈ nmF ps fs ↔ s ∈ ps ∧ ∃ f ∈ fs, f.a = s ∨ f.b = s := by
  unfold nmF
  rw [List.mem_filter, List.any_eq_true]
  simp only [Bool.or_eq_true, decide_eq_true_eq]
theorem nmF_len (ps : List ByteArray) (fs : List Fa) : (nmF ps fs).length ≤ ps.length := List.length_filter_le _ _
theorem nmF_about {ps : List ByteArray} {fs : List Fa} (h : AllAbout ps fs) : AllAbout (nmF ps fs) fs := fun f hf => by
  obtain ⟨h1, h2, h3, h4⟩ := aboutB_iff.1 (h f hf)
  exact aboutB_iff.2 ⟨h1, nmF_mem.2 ⟨h2, f, hf, .inl rfl⟩, fun k => ⟨(h3 k).1, nmF_mem.2 ⟨(h3 k).2.1, f, hf, .inr rfl⟩, (h3 k).2.2⟩, h4⟩
theorem condN_ext {B E B' E' : ByteArray → Int} {f : Fa} (ha : B f.a = B' f.a ∧ E f.a = E' f.a) (hb : f.kind ≤ 3 → B f.b = B' f.b ∧ E f.b = E' f.b) : condN B E f ↔ condN B' E' f := by
  unfold condN
  rw [ha.1, ha.2]
  by_cases k1 : f.kind = 1
  · rw [if_pos k1, if_pos k1, (hb (by omega)).1, (hb (by omega)).2]
  · rw [if_neg k1, if_neg k1]
    by_cases k2 : f.kind = 2
    · rw [if_pos k2, if_pos k2, (hb (by omega)).1]
    · rw [if_neg k2, if_neg k2]
      by_cases k3 : f.kind = 3
      · rw [if_pos k3, if_pos k3, (hb (by omega)).1]
      · rw [if_neg k3, if_neg k3]
/-- Others have years whatever the facts are. -/
theorem nm_solve {ps : List ByteArray} {fs : List Fa} (hp : ps.length ≤ 24) (h : AllAbout ps fs) : (solveF (nmF ps fs) fs).isSome = (solveF ps fs).isSome := by
  have hp2 : (nmF ps fs).length ≤ 24 := Nat.le_trans (nmF_len ps fs) hp
  rw [Bool.eq_iff_iff, isSome_nsol hp2 (nmF_about h), isSome_nsol hp h]
  constructor
  · rintro ⟨B, E, h1, h2⟩
    refine ⟨fun s => if s ∈ nmF ps fs then B s else 0, fun s => if s ∈ nmF ps fs then E s else 0, fun s _ => ?_, fun f hf => ?_⟩
    · by_cases q : s ∈ nmF ps fs
      · simp only [if_pos q]; exact h1 s q
      · simp only [if_neg q]; omega
    · obtain ⟨_, q2, q3, _⟩ := aboutB_iff.1 (nmF_about h f hf)
      refine (condN_ext ?_ (fun k => ?_)).1 (h2 f hf)
      · simp only [if_pos q2, and_self]
      · simp only [if_pos (q3 k).2.1, and_self]
  · rintro ⟨B, E, h1, h2⟩
    exact ⟨B, E, fun s hs => h1 s (nmF_mem.1 hs).1, h2⟩
def badN (ps : List ByteArray) (fs : List Fa) : Bool := (solvedF (nmF ps fs) fs).isNone
theorem sel_about {ps : List ByteArray} {fs : List Fa} {l : List Nat} (h : AllAbout ps fs) (hi : ∀ j ∈ l, j < fs.length) : AllAbout ps (selF fs l) := fun f hf => by
  unfold selF at hf
  obtain ⟨j, hj, rfl⟩ := List.mem_map.1 hf
  have := hi j hj
  rw [List.getD_eq_getElem?_getD, List.getElem?_eq_getElem this]
  exact h _ (List.getElem_mem this)
theorem isNone_of {α β : Type} {o : Option α} {p : Option β} (h : o.isSome = p.isSome) : o.isNone = p.isNone := by
  cases o <;> cases p <;> simp_all
theorem badN_is {ps : List ByteArray} {fs : List Fa} (hp : ps.length ≤ 24) (h : AllAbout ps fs) : badN ps fs = (solveF ps fs).isNone := by
  unfold badN
  refine isNone_of ?_
  rw [solved_isSome (Nat.le_trans (nmF_len ps fs) hp) (nmF_about h), nm_solve hp h]
/-- The reference's search: so many more facts, from an index on. -/
def chF (ps : List ByteArray) (fs : List Fa) : Nat → List Nat → Nat → Option (List Nat)
  | 0, l, _ => if badN ps (selF fs l) then some l else none
  | m + 1, l, i => (List.range' i (fs.length - i)).findSome? fun j => chF ps fs m (l ++ [j]) (j + 1)
theorem chF_end {ps : List ByteArray} {fs : List Fa} {m i : Nat} {l : List Nat} (h : ¬ i < fs.length) : chF ps fs (m + 1) l i = none := by
  unfold chF
  rw [show fs.length - i = 0 by omega]
  rfl
theorem chF_some {ps : List ByteArray} {fs : List Fa} {m i : Nat} {l s : List Nat} (h : i < fs.length) (hs : chF ps fs m (l ++ [i]) (i + 1) = some s) : chF ps fs (m + 1) l i = some s := by
  unfold chF
  rw [show fs.length - i = (fs.length - (i + 1)) + 1 by omega, List.range'_succ, List.findSome?_cons, hs]
theorem chF_next {ps : List ByteArray} {fs : List Fa} {m i : Nat} {l : List Nat} (h : i < fs.length) (hs : chF ps fs m (l ++ [i]) (i + 1) = none) : chF ps fs (m + 1) l i = chF ps fs (m + 1) l (i + 1) := by
  conv => lhs; unfold chF
  rw [show fs.length - i = (fs.length - (i + 1)) + 1 by omega, List.range'_succ, List.findSome?_cons, hs]
  rfl
theorem findSome_congr {α β : Type} {f g : α → Option β} : ∀ {l : List α}, (∀ x ∈ l, f x = g x) → l.findSome? f = l.findSome? g := by
  intro l
  induction l with
  | nil => intro _; rfl
  | cons x l ih =>
    intro h
    rw [List.findSome?_cons, List.findSome?_cons, h x (by simp), ih (fun y hy => h y (by simp [hy]))]
theorem chF_srch {ps : List ByteArray} {fs : List Fa} (hp : ps.length ≤ 24) (hf : AllAbout ps fs) {k : Nat} (H : ∀ l, IdxL fs l → l.length < k → badL ps fs l = false) : ∀ (d : Nat) (D : Mat) (set : List Nat) (i : Nat),
    solveF ps (selF fs set) = some D → set.length + d + 1 = k → IdxL fs set → (∀ j ∈ set, j < i) → chF ps fs (d + 1) set i = srch ps fs d D set i := by
  have snoc : ∀ (set : List Nat) (i j : Nat), IdxL fs set → (∀ x ∈ set, x < i) → i ≤ j → j < fs.length → IdxL fs (set ++ [j]) ∧ ∀ x ∈ set ++ [j], x < j + 1 := by
    intro set i j h1 h2 h3 h4
    refine ⟨⟨?_, fun x hx => ?_⟩, fun x hx => ?_⟩
    · rw [List.pairwise_append]
      refine ⟨h1.1, by simp, fun a ha b hb => ?_⟩
      rw [List.mem_singleton.1 hb]
      have := h2 a ha
      omega
    · rcases List.mem_append.1 hx with q | q
      · exact h1.2 x q
      · rw [List.mem_singleton.1 q]; exact h4
    · rcases List.mem_append.1 hx with q | q
      · have := h2 x q; omega
      · rw [List.mem_singleton.1 q]; omega
  intro d
  induction d with
  | zero =>
    intro D set i e hk h1 h2
    rw [srch_eq]
    unfold chF
    refine findSome_congr fun j hj => ?_
    rw [List.mem_range'_1] at hj
    obtain ⟨s1, s2⟩ := snoc set i j h1 h2 (by omega) (by omega)
    unfold chF srchAt
    rw [badN_is hp (sel_about hf s1.2)]
    have hb := badL_snoc e j
    unfold badL at hb
    rw [hb]
    cases amL D (boundsF ps (fs.getD j noFa)) with
    | none => rfl
    | some E => rfl
  | succ d ih =>
    intro D set i e hk h1 h2
    rw [srch_eq]
    unfold chF
    refine findSome_congr fun j hj => ?_
    rw [List.mem_range'_1] at hj
    obtain ⟨s1, s2⟩ := snoc set i j h1 h2 (by omega) (by omega)
    have hb := badL_snoc e j
    have hg := H (set ++ [j]) s1 (by rw [List.length_append, List.length_singleton]; omega)
    rw [hg] at hb
    unfold srchAt
    cases ha : amL D (boundsF ps (fs.getD j noFa)) with
    | none => rw [ha] at hb; cases hb
    | some E =>
      simp only [Nat.add_one_ne_zero, if_false, Nat.add_sub_cancel]
      exact ih E (set ++ [j]) (j + 1) (by rw [selF_snoc, solveF_snoc, e]; exact ha) (by rw [List.length_append, List.length_singleton]; omega) s1 s2
/-- What the reference's Contradiction finds. -/
def rcontrF (ps : List ByteArray) (fs : List Fa) (most : Nat) : Option (List Nat) := if (solveF ps fs).isSome then none else (List.range' 1 most).findSome? fun k => chF ps fs k [] 0
theorem contr_ref {ps : List ByteArray} {fs : List Fa} (hp : ps.length ≤ 24) (hf : AllAbout ps fs) (most : Nat) : rcontrF ps fs most = contrF ps fs most := by
  have main : ∀ m, ((List.range' 1 m).findSome? fun k => chF ps fs k [] 0) = contrF ps fs m := by
    intro m
    induction m with
    | zero => rfl
    | succ m ih =>
      have e1 : contrF ps fs (m + 1) = (contrF ps fs m).or (srch ps fs m (bornE ps.length 0 0) [] 0) := by
        unfold contrF
        rw [List.range'_1_concat, List.findSome?_append]
        congr 1
        rw [List.findSome?_cons, show 1 + m - 1 = m by omega]
        cases srch ps fs m (bornE ps.length 0 0) [] 0 <;> rfl
      rw [List.range'_1_concat, List.findSome?_append, ih, e1]
      cases hc : contrF ps fs m with
      | some x => rfl
      | none =>
        rw [Option.none_or, Option.none_or]
        have := chF_srch hp hf (k := m + 1) (fun l hi hl => contr_none hc hi (by omega)) m (bornE ps.length 0 0) [] 0 (sel_none ps fs) (by simp) ⟨List.Pairwise.nil, by simp⟩ (by simp)
        rw [List.findSome?_cons, show 1 + m = m + 1 by omega, this]
        cases srch ps fs m (bornE ps.length 0 0) [] 0 <;> rfl
  unfold rcontrF
  split
  · next hs =>
    cases hc : contrF ps fs most with
    | none => rfl
    | some x =>
      exfalso
      obtain ⟨h1, _, _, h4, _⟩ := contr_some hc
      obtain ⟨B, E, hN⟩ := (isSome_nsol hp hf).1 hs
      have : (solveF ps (selF fs x)).isSome = true := (isSome_nsol hp (sel_about hf h1.2)).2 ⟨B, E, hN.1, fun f hfm => by
        unfold selF at hfm
        obtain ⟨j, hj, rfl⟩ := List.mem_map.1 hfm
        have hl := h1.2 j hj
        rw [List.getD_eq_getElem?_getD, List.getElem?_eq_getElem hl]
        exact hN.2 _ (List.getElem_mem hl)⟩
      unfold badL at h4
      cases hq : solveF ps (selF fs x) with
      | none => rw [hq] at this; cases this
      | some D => rw [hq] at h4; cases h4
  · exact main most
end Go.Proofs.YtdmcopjbckelmaaGreatDoor
