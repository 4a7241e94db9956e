/- Plain: the reference's search: paths of bridges, breadth first. -/
import Derived.Test.YtmibpncmebhbjaaDoorPot1
import Derived.Test.YtmibpncmebhbjaaDoorRef1
namespace Go.Proofs.YtmibpncmebhbjaaDoor
open Go Go.RowKit

/-- A path of bridges, each forwards or backwards. -/
inductive Path (es : List Ed) (a : Nat) : List (Nat × Bool) → Nat → Prop
  | nil : Path es a [] a
  | fwd {l : List (Nat × Bool)} {c : Nat} (h : Path es a l c) (b : Nat) (e : Ed) (hb : es[b]? = some e) (hc : e.i = c) : Path es a (l ++ [(b, false)]) e.j
  | back {l : List (Nat × Bool)} {c : Nat} (h : Path es a l c) (b : Nat) (e : Ed) (hb : es[b]? = some e) (hc : e.j = c) : Path es a (l ++ [(b, true)]) e.i
def edQ (es : List Ed) (s : Nat × Bool) : Rat := match es[s.1]? with | some e => if s.2 then e.q⁻¹ else e.q | none => 1
def pathQ (es : List Ed) : List (Nat × Bool) → Rat
  | [] => 1
  | s :: l => edQ es s * pathQ es l
theorem pathQ_append (es : List Ed) (l m : List (Nat × Bool)) : pathQ es (l ++ m) = pathQ es l * pathQ es m := by
  induction l with
  | nil => simp [pathQ]
  | cons s l ih => simp only [List.cons_append, pathQ, ih]; grind
theorem pathQ_snoc (es : List Ed) (l : List (Nat × Bool)) (s : Nat × Bool) : pathQ es (l ++ [s]) = pathQ es l * edQ es s := by
  rw [pathQ_append]; simp only [pathQ]; grind
theorem Path.conn {es : List Ed} {a c : Nat} {l : List (Nat × Bool)} (h : Path es a l c) : Conn es a c := by
  induction h with
  | nil => exact .refl a
  | fwd h b e hb hc ih => subst hc; exact ih.trans (.edge e (List.mem_of_getElem? hb))
  | back h b e hb hc ih => subst hc; exact ih.trans (Conn.edge e (List.mem_of_getElem? hb)).symm
theorem Path.pot {es : List Ed} {f : Nat → Rat} (hf : Pot es f) {a c : Nat} {l : List (Nat × Bool)} (h : Path es a l c) : f a = pathQ es l * f c := by
  induction h with
  | nil => simp [pathQ]
  | fwd h b e hb hc ih =>
    subst hc
    have h1 := hf.2 e (List.mem_of_getElem? hb)
    rw [ih, pathQ_snoc]
    simp only [edQ, hb]
    rw [h1]; simp; grind
  | back h b e hb hc ih =>
    subst hc
    have h1 := hf.2 e (List.mem_of_getElem? hb)
    have h2 := hf.1 e.i
    have h3 : e.q ≠ 0 := by intro e0; rw [e0] at h1; grind
    rw [ih, pathQ_snoc]
    simp only [edQ, hb]
    rw [h1]; simp; grind
theorem Path.lt {es : List Ed} {a c : Nat} {l : List (Nat × Bool)} (h : Path es a l c) : ∀ s ∈ l, s.1 < es.length := by
  induction h with
  | nil => intro s hs; cases hs
  | fwd h b e hb hc ih =>
    intro s hs
    rcases List.mem_append.1 hs with hs | hs
    · exact ih s hs
    · simp at hs; subst hs; exact (List.getElem?_eq_some_iff.1 hb).1
  | back h b e hb hc ih =>
    intro s hs
    rcases List.mem_append.1 hs with hs | hs
    · exact ih s hs
    · simp at hs; subst hs; exact (List.getElem?_eq_some_iff.1 hb).1
theorem Path.mono {es : List Ed} {a c : Nat} {l : List (Nat × Bool)} (h : Path es a l c) (fs : List Ed) : Path (es ++ fs) a l c := by
  induction h with
  | nil => exact .nil
  | fwd h b e hb hc ih => exact .fwd ih b e (by rw [List.getElem?_append_left (List.getElem?_eq_some_iff.1 hb).1]; exact hb) hc
  | back h b e hb hc ih => exact .back ih b e (by rw [List.getElem?_append_left (List.getElem?_eq_some_iff.1 hb).1]; exact hb) hc

/-- The search: the ways found, which ladders are seen, the way that is looked at, the bridge that is next. -/
structure Bfs (es : List Ed) (n a c : Nat) (ways : List (Nat × List (Nat × Bool))) (seen : List Bool) (i b : Nat) : Prop where
  len : seen.length = n
  rng : ∀ x ∈ ways, x.1 < n
  cnt : seen.count true = ways.length
  yes : ∀ x ∈ ways, seen[x.1]? = some true
  of : ∀ v : Nat, seen[v]? = some true → ∃ x ∈ ways, x.1 = v
  path : ∀ x ∈ ways, Path es a x.2 x.1
  dep : ∀ x ∈ ways, x.2.length < ways.length
  start : seen[a]? = some true
  le : i ≤ ways.length
  done : ∀ j (h : j < ways.length), j < i → ways[j].1 ≠ c ∧ ∀ e ∈ es, (e.i = ways[j].1 → seen[e.j]? = some true) ∧ (e.j = ways[j].1 → seen[e.i]? = some true)
  part : ∀ (h : i < ways.length) k (e : Ed), k < b → es[k]? = some e → (e.i = ways[i].1 → seen[e.j]? = some true) ∧ (e.j = ways[i].1 → seen[e.i]? = some true)
section
variable {es : List Ed} {n a c : Nat} {ways : List (Nat × List (Nat × Bool))} {seen : List Bool} {i b : Nat}
theorem Bfs.init (ha : a < n) : Bfs es n a c [(a, [])] ((List.replicate n false).set a true) 0 0 where
  len := by simp
  rng := by intro x hx; simp at hx; subst hx; exact ha
  cnt := by rw [List.count_set (by simpa using ha)]; simp [List.count_replicate]
  yes := by intro x hx; simp at hx; subst hx; simp [ha]
  of := by
    intro v hv
    rw [List.getElem?_set] at hv
    by_cases e : a = v
    · exact ⟨(a, []), by simp, e⟩
    · rw [if_neg e] at hv
      rw [List.getElem?_replicate] at hv
      split at hv <;> simp at hv
  path := by intro x hx; simp at hx; subst hx; exact .nil
  dep := by intro x hx; simp at hx; subst hx; simp
  start := by simp [ha]
  le := by simp
  done := fun j _ h => by omega
  part := fun _ k _ h => by omega
theorem Bfs.few (h : Bfs es n a c ways seen i b) : ways.length ≤ n := by
  rw [← h.cnt, ← h.len]; exact List.count_le_length
theorem set_seen {seen : List Bool} {v u : Nat} (h : seen[u]? = some true) : (seen.set v true)[u]? = some true := by
  have hl := (List.getElem?_eq_some_iff.1 h).1
  rw [List.getElem?_set]
  split
  · next e => subst e; simp [hl]
  · exact h
/-- A new ladder. -/
theorem Bfs.add (h : Bfs es n a c ways seen i b) (hi0 : i < ways.length) {v : Nat} {l : List (Nat × Bool)} (hv : seen[v]? = some false) (hp : Path es a l v) (hl : l.length ≤ ways.length) : Bfs es n a c (ways ++ [(v, l)]) (seen.set v true) i b := by
  have hvl := (List.getElem?_eq_some_iff.1 hv).1
  have hv' : seen[v] = false := by rw [List.getElem?_eq_getElem hvl] at hv; exact Option.some.inj hv
  refine ⟨by simp [h.len], fun x hx => ?_, ?_, fun x hx => ?_, fun u hu => ?_, fun x hx => ?_, fun x hx => ?_, set_seen h.start, by have := h.le; simp; omega, fun j hj hji => ?_, fun hi k e hk he => ?_⟩
  · rcases List.mem_append.1 hx with hx | hx
    · exact h.rng x hx
    · simp at hx; subst hx; rw [← h.len]; exact hvl
  · rw [List.count_set hvl, h.cnt, hv']; simp
  · rcases List.mem_append.1 hx with hx | hx
    · exact set_seen (h.yes x hx)
    · simp at hx; subst hx; simp [hvl]
  · rw [List.getElem?_set] at hu
    split at hu
    · next e => exact ⟨(v, l), by simp, e⟩
    · obtain ⟨x, hx, e⟩ := h.of u hu
      exact ⟨x, by simp [hx], e⟩
  · rcases List.mem_append.1 hx with hx | hx
    · exact h.path x hx
    · simp at hx; subst hx; exact hp
  · rcases List.mem_append.1 hx with hx | hx
    · have := h.dep x hx; simp; omega
    · simp at hx; subst hx; simp; omega
  · have hj' : j < ways.length := by have := h.le; omega
    rw [List.getElem_append_left hj']
    obtain ⟨h1, h2⟩ := h.done j hj' hji
    exact ⟨h1, fun e he => ⟨fun q => set_seen ((h2 e he).1 q), fun q => set_seen ((h2 e he).2 q)⟩⟩
  · rw [List.getElem_append_left hi0]
    have h2 := h.part hi0 k e hk he
    exact ⟨fun q => set_seen (h2.1 q), fun q => set_seen (h2.2 q)⟩
/-- The next bridge. -/
theorem Bfs.edge (h : Bfs es n a c ways seen i b) (hi : i < ways.length) {e : Ed} (he : es[b]? = some e) (h1 : e.i = ways[i].1 → seen[e.j]? = some true) (h2 : e.j = ways[i].1 → seen[e.i]? = some true) : Bfs es n a c ways seen i (b + 1) :=
  ⟨h.len, h.rng, h.cnt, h.yes, h.of, h.path, h.dep, h.start, h.le, h.done, fun hi' k e' hk he' => by
    by_cases ek : k = b
    · subst ek
      rw [he] at he'
      cases he'
      exact ⟨h1, h2⟩
    · exact h.part hi' k e' (by omega) he'⟩
/-- The next way. -/
theorem Bfs.next (h : Bfs es n a c ways seen i es.length) (hi : i < ways.length) (hc : ways[i].1 ≠ c) : Bfs es n a c ways seen (i + 1) 0 :=
  ⟨h.len, h.rng, h.cnt, h.yes, h.of, h.path, h.dep, h.start, hi, fun j hj hji => by
    by_cases ej : j = i
    · subst ej
      refine ⟨hc, fun e he => ?_⟩
      obtain ⟨k, hk, rfl⟩ := List.mem_iff_getElem.1 he
      exact h.part hj k _ hk (List.getElem?_eq_getElem hk)
    · exact h.done j hj (by omega), fun _ k _ hk => by omega⟩
theorem Bfs.closed (h : Bfs es n a c ways seen ways.length b) : ∀ e ∈ es, seen[e.i]? = some true ↔ seen[e.j]? = some true := by
  intro e he
  constructor
  · intro q
    obtain ⟨x, hx, ex⟩ := h.of _ q
    obtain ⟨j, hj, rfl⟩ := List.mem_iff_getElem.1 hx
    exact ((h.done j hj hj).2 e he).1 ex.symm
  · intro q
    obtain ⟨x, hx, ex⟩ := h.of _ q
    obtain ⟨j, hj, rfl⟩ := List.mem_iff_getElem.1 hx
    exact ((h.done j hj hj).2 e he).2 ex.symm
/-- All ways are looked at. -/
theorem Bfs.no (h : Bfs es n a c ways seen ways.length b) : ¬ Conn es a c := by
  intro hc
  have key : ∀ {u v : Nat}, Conn es u v → (seen[u]? = some true ↔ seen[v]? = some true) := by
    intro u v huv
    induction huv with
    | refl _ => exact Iff.rfl
    | edge e he => exact h.closed e he
    | symm _ ih => exact ih.symm
    | trans _ _ ih1 ih2 => exact ih1.trans ih2
  have q := (key hc).1 h.start
  obtain ⟨x, hx, ex⟩ := h.of _ q
  obtain ⟨j, hj, rfl⟩ := List.mem_iff_getElem.1 hx
  exact (h.done j hj hj).1 ex
theorem Bfs.found (h : Bfs es n a c ways seen i b) (hi : i < ways.length) (hc : ways[i].1 = c) : Path es a ways[i].2 c ∧ ways[i].2.length < n := by
  have hm : ways[i] ∈ ways := List.getElem_mem hi
  refine ⟨hc ▸ h.path _ hm, ?_⟩
  have := h.dep _ hm
  have := h.few
  omega
end

/-- The index of a ladder; -1: there is none. -/
def atI (ls : List La) (nm : ByteArray) : Int := match findL nm ls 0 with | some i => (i : Int) | none => -1
theorem atI_yes {ls : List La} {nm : ByteArray} (h : idxE ls nm = 0) : atI ls nm = (idxI ls nm : Int) := by
  unfold idxE at h
  unfold atI idxI
  cases hf : findL nm ls 0 with
  | none => rw [hf] at h; simp [needF] at h
  | some i => simp
theorem atI_no {ls : List La} {nm : ByteArray} (h : idxE ls nm ≠ 0) : atI ls nm = -1 ∧ idxE ls nm = 4 := by
  unfold idxE at *
  unfold atI
  cases hf : findL nm ls 0 with
  | none => simp [needF]
  | some i => rw [hf] at h; simp [needF] at h
theorem atI_neg {ls : List La} {nm : ByteArray} : atI ls nm < 0 ↔ idxE ls nm ≠ 0 := by
  constructor
  · intro h e
    rw [atI_yes e] at h
    omega
  · intro h
    rw [(atI_no h).1]; decide
theorem findL_hit {nm : ByteArray} {ls : List La} {j k : Nat} (hk : k < ls.length) (h1 : ls[k].nm = nm) (h2 : ∀ i (hi : i < ls.length), i < k → ls[i].nm ≠ nm) : findL nm ls j = some (j + k) := by
  induction ls generalizing j k with
  | nil => simp at hk
  | cons x ls ih =>
    unfold findL
    cases k with
    | zero => rw [if_pos (by simpa using h1.symm)]; simp
    | succ k =>
      rw [if_neg (fun e => h2 0 (by simp) (by omega) (by simpa using e.symm))]
      rw [ih (j := j + 1) (by simpa using hk) (by simpa using h1) (fun i hi hik => by have := h2 (i + 1) (by simpa using hi) (by omega); rwa [List.getElem_cons_succ] at this)]
      congr 1; omega
theorem findL_none {nm : ByteArray} {ls : List La} {j : Nat} (h2 : ∀ i (hi : i < ls.length), ls[i].nm ≠ nm) : findL nm ls j = none := by
  induction ls generalizing j with
  | nil => rfl
  | cons x ls ih =>
    unfold findL
    rw [if_neg (fun e => h2 0 (by simp) (by simpa using e.symm))]
    exact ih (fun i hi => by have := h2 (i + 1) (by simpa using hi); rwa [List.getElem_cons_succ] at this)
theorem atI_hit {nm : ByteArray} {ls : List La} {k : Nat} (hk : k < ls.length) (h1 : ls[k].nm = nm) (h2 : ∀ i (hi : i < ls.length), i < k → ls[i].nm ≠ nm) : atI ls nm = k := by
  unfold atI
  rw [findL_hit hk h1 h2]; simp
theorem atI_none {nm : ByteArray} {ls : List La} (h2 : ∀ i (hi : i < ls.length), ls[i].nm ≠ nm) : atI ls nm = -1 := by
  unfold atI
  rw [findL_none h2]
end Go.Proofs.YtmibpncmebhbjaaDoor
