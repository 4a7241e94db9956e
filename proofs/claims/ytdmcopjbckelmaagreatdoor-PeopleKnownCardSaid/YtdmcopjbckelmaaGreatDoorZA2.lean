/- Plain: those above a person, as those whom a walk over parents reaches; what PeopleStepsAdd says of them. No condition. Walks of the package people: Ancestors. Conditions: those stated. -/
import Derived.Test.YtdmcopjbckelmaaGreatDoorZE
import Derived.Test.YtdmcopjbckelmaaGreatDoorZH
import Derived.BigQuiet
namespace Go.Proofs.YtdmcopjbckelmaaGreatDoor
section
open Go Go.RowKit Go.Shelf

/-- A walk up over parents. -/
inductive Up (fs : List Fa) : ByteArray → ByteArray → Prop
  | here (s) : Up fs s s
  | step {s t u} : Up fs s t → u ∈ parentsF fs t → Up fs s u
theorem Up.trans {fs : List Fa} {s t u : ByteArray} (h : Up fs s t) (k : Up fs t u) : Up fs s u := by
  induction k with
  | here => exact h
  | step _ hp ih => exact ih.step hp
/-- The map of steps is sound, and what it lacks comes next. -/
structure AbC (fs : List Fa) (frm : List ByteArray) (m : Sm) (nx : List ByteArray) : Prop where
  snd1 : ∀ p ∈ m, ∃ f ∈ frm, Up fs f p.1
  snd2 : ∀ s ∈ nx, ∃ f ∈ frm, Up fs f s
theorem abS_snd {fs : List Fa} {frm : List ByteArray} {k : Nat} : ∀ (l : List ByteArray) (m : Sm) (nx : List ByteArray), (∀ s ∈ l, ∃ f ∈ frm, Up fs f s) → AbC fs frm m nx → AbC fs frm (abS fs k l m nx).1 (abS fs k l m nx).2 := by
  intro l
  induction l with
  | nil => intro m nx _ h; exact h
  | cons s l ih =>
    intro m nx hl h
    simp only [abS]
    split
    · exact ih m nx (fun t ht => hl t (by simp [ht])) h
    · obtain ⟨f, hf, hu⟩ := hl s (by simp)
      refine ih _ _ (fun t ht => hl t (by simp [ht])) ⟨fun p hp => ?_, fun t ht => ?_⟩
      · rcases List.mem_append.1 hp with q | q
        · exact h.snd1 p q
        · rw [List.mem_singleton.1 q]; exact ⟨f, hf, hu⟩
      · rcases List.mem_append.1 ht with q | q
        · exact h.snd2 t q
        · exact ⟨f, hf, hu.step q⟩
theorem abI_snd (fs : List Fa) (frm : List ByteArray) : ∀ i, AbC fs frm (abI fs frm i).1 (abI fs frm i).2 := by
  intro i
  induction i with
  | zero => exact ⟨fun p hp => by simp [abI] at hp, fun s hs => ⟨s, hs, .here s⟩⟩
  | succ i ih => exact abS_snd _ _ _ ih.snd2 ⟨ih.snd1, by simp⟩
/-- Within a level: whoever is in the list is in the map behind it; the map only grows; the parents of the new ones come next. -/
theorem abS_all {fs : List Fa} {k : Nat} : ∀ (l : List ByteArray) (m : Sm) (nx : List ByteArray),
    (∀ p ∈ m, p ∈ (abS fs k l m nx).1) ∧ (∀ s ∈ nx, s ∈ (abS fs k l m nx).2) ∧ (∀ s ∈ l, s ∈ ((abS fs k l m nx).1).map (·.1)) ∧
    (∀ p ∈ (abS fs k l m nx).1, p ∈ m ∨ (p.2 = k ∧ p.1 ∈ l ∧ ∀ t ∈ parentsF fs p.1, t ∈ (abS fs k l m nx).2)) := by
  intro l
  induction l with
  | nil => intro m nx; exact ⟨fun p h => h, fun s h => h, fun s h => by simp at h, fun p h => .inl h⟩
  | cons s l ih =>
    intro m nx
    simp only [abS]
    split
    · next hs =>
      obtain ⟨i1, i2, i3, i4⟩ := ih m nx
      refine ⟨i1, i2, fun t ht => ?_, fun p hp => ?_⟩
      · rcases List.mem_cons.1 ht with rfl | q
        · obtain ⟨p, hp, e⟩ := List.mem_map.1 (hasN_iff.1 hs)
          exact List.mem_map.2 ⟨p, i1 p hp, e⟩
        · exact i3 t q
      · rcases i4 p hp with q | ⟨q1, q2, q3⟩
        · exact .inl q
        · exact .inr ⟨q1, by simp [q2], q3⟩
    · obtain ⟨i1, i2, i3, i4⟩ := ih (m ++ [(s, k)]) (nx ++ parentsF fs s)
      refine ⟨fun p hp => i1 p (by simp [hp]), fun t ht => i2 t (by simp [ht]), fun t ht => ?_, fun p hp => ?_⟩
      · rcases List.mem_cons.1 ht with rfl | q
        · exact List.mem_map.2 ⟨(t, k), i1 _ (by simp), rfl⟩
        · exact i3 t q
      · rcases i4 p hp with q | ⟨q1, q2, q3⟩
        · rcases List.mem_append.1 q with q | q
          · exact .inl q
          · rw [List.mem_singleton.1 q]
            exact .inr ⟨rfl, by simp, fun t ht => i2 t (by simp [ht])⟩
        · exact .inr ⟨q1, by simp [q2], q3⟩
theorem abI_grow {fs : List Fa} {frm : List ByteArray} {i : Nat} {p : ByteArray × Nat} (h : p ∈ (abI fs frm i).1) : ∀ j, p ∈ (abI fs frm (i + j)).1 := by
  intro j
  induction j with
  | zero => exact h
  | succ j ih => exact (abS_all (k := i + j) (abI fs frm (i + j)).2 (abI fs frm (i + j)).1 []).1 p ih
/-- Closed but for those who come next. -/
theorem abI_closed (fs : List Fa) (frm : List ByteArray) : ∀ i, (∀ s ∈ frm, s ∈ ((abI fs frm i).1).map (·.1) ∨ s ∈ (abI fs frm i).2) ∧ ∀ p ∈ (abI fs frm i).1, ∀ t ∈ parentsF fs p.1, t ∈ ((abI fs frm i).1).map (·.1) ∨ t ∈ (abI fs frm i).2 := by
  intro i
  induction i with
  | zero => exact ⟨fun s hs => .inr hs, fun p hp => by simp [abI] at hp⟩
  | succ i ih =>
    obtain ⟨i1, _, i3, i4⟩ := abS_all (fs := fs) (k := i) (abI fs frm i).2 (abI fs frm i).1 []
    have key : ∀ s, (s ∈ ((abI fs frm i).1).map (·.1) ∨ s ∈ (abI fs frm i).2) → s ∈ ((abI fs frm (i + 1)).1).map (·.1) := by
      rintro s (h | h)
      · obtain ⟨p, hp, e⟩ := List.mem_map.1 h
        exact List.mem_map.2 ⟨p, i1 p hp, e⟩
      · exact i3 s h
    refine ⟨fun s hs => .inl (key s (ih.1 s hs)), fun p hp t ht => ?_⟩
    rcases i4 p hp with q | ⟨_, _, q⟩
    · exact .inl (key t (ih.2 p q t ht))
    · exact .inr (q t ht)
/-- Whom the map of steps has, when nobody comes next. -/
theorem abI_has {fs : List Fa} {frm : List ByteArray} {i : Nat} (h : (abI fs frm i).2 = []) (s : ByteArray) : s ∈ ((abI fs frm i).1).map (·.1) ↔ ∃ f ∈ frm, Up fs f s := by
  constructor
  · intro hs
    obtain ⟨p, hp, rfl⟩ := List.mem_map.1 hs
    exact (abI_snd fs frm i).snd1 p hp
  · rintro ⟨f, hf, hu⟩
    obtain ⟨c1, c2⟩ := abI_closed fs frm i
    rw [h] at c1 c2
    have c1 : ∀ s ∈ frm, s ∈ ((abI fs frm i).1).map (·.1) := fun s hs => by simpa using c1 s hs
    induction hu with
    | here => exact c1 f hf
    | step _ hp ih =>
      obtain ⟨p, hp1, e⟩ := List.mem_map.1 ih
      subst e
      simpa using c2 p hp1 _ hp
theorem parent_child {fs : List Fa} {a b : ByteArray} : b ∈ parentsF fs a ↔ a ∈ childrenF fs b := by
  unfold parentsF childrenF
  rw [mem_setL, mem_setL]
  unfold parentsL childrenL
  simp only [List.mem_map, List.mem_filter, Bool.and_eq_true, decide_eq_true_eq]
  constructor
  · rintro ⟨f, ⟨h1, h2, h3⟩, h4⟩; exact ⟨f, ⟨h1, h2, h4⟩, h3⟩
  · rintro ⟨f, ⟨h1, h2, h3⟩, h4⟩; exact ⟨f, ⟨h1, h2, h4⟩, h3⟩
theorem abI_once {fs : List Fa} {frm : List ByteArray} : ∀ i, (((abI fs frm i).1).map (·.1)).Nodup := by
  have key : ∀ (k : Nat) (l : List ByteArray) (m : Sm) (nx : List ByteArray), (m.map (·.1)).Nodup → (((abS fs k l m nx).1).map (·.1)).Nodup := by
    intro k l
    induction l with
    | nil => intro m nx h; exact h
    | cons s l ih =>
      intro m nx h
      simp only [abS]
      split
      · exact ih m nx h
      · next hs =>
        refine ih _ _ ?_
        rw [List.map_append, List.nodup_append]
        refine ⟨h, by simp, fun x hx y hy => ?_⟩
        simp only [List.map_cons, List.map_nil, List.mem_singleton] at hy
        subst hy
        exact fun e => hs (hasN_iff.2 (e ▸ hx))
  intro i
  induction i with
  | zero => simp [abI]
  | succ i ih => exact key _ _ _ _ ih
theorem stepOf_mem {m : Sm} {s : ByteArray} {k : Nat} (h : stepOf m s = some k) : (s, k) ∈ m := by
  unfold stepOf at h
  obtain ⟨p, hp, rfl⟩ := Option.map_eq_some_iff.1 h
  have e : s = p.1 := by
    have := List.find?_some hp
    exact of_decide_eq_true this
  have e2 : (s, p.2) = p := by rw [e]
  rw [e2]
  exact List.mem_of_find?_eq_some hp
theorem mem_stepOf {m : Sm} (hn : (m.map (·.1)).Nodup) {s : ByteArray} {k : Nat} (h : (s, k) ∈ m) : stepOf m s = some k := by
  induction m with
  | nil => simp at h
  | cons p m ih =>
    rw [List.map_cons, List.nodup_cons] at hn
    unfold stepOf
    rw [List.find?_cons]
    rcases List.mem_cons.1 h with e | e
    · rw [← e]; simp
    · have hne : s ≠ p.1 := fun q => hn.1 (List.mem_map.2 ⟨(s, k), e, q⟩)
      rw [decide_eq_false hne]
      exact ih hn.2 e
section
variable {fs : List Fa} {a : ByteArray} {i : Nat} (h : (abI fs [a] i).2 = [])
include h
theorem self_step : (a, 0) ∈ (abI fs [a] i).1 := by
  have e := abI_stay h 1
  rw [← e]
  have : (a, 0) ∈ (abI fs [a] 1).1 := by simp [abI, abS, hasN]
  rw [Nat.add_comm]
  exact abI_grow this i
omit h in
theorem zero_self {s : ByteArray} (hs : (s, 0) ∈ (abI fs [a] i).1) : s = a := by
  have key : ∀ j, (s, 0) ∈ (abI fs [a] j).1 → s = a := by
    intro j
    induction j with
    | zero => intro q; simp [abI] at q
    | succ j ih =>
      intro q
      rcases (abS_all (fs := fs) (k := j) (abI fs [a] j).2 (abI fs [a] j).1 []).2.2.2 _ q with q | ⟨q1, q2, _⟩
      · exact ih q
      · obtain rfl : j = 0 := q1.symm
        simpa [abI] using q2
  exact key i hs
theorem parent_step {b : ByteArray} (hb : b ∈ parentsF fs a) (hne : a ≠ b) : (b, 1) ∈ (abI fs [a] i).1 := by
  have e := abI_stay h 2
  rw [← e, Nat.add_comm]
  refine abI_grow ?_ i
  have e1 : abI fs [a] 1 = ([(a, 0)], parentsF fs a) := by simp [abI, abS, hasN]
  show (b, 1) ∈ (abS fs 1 (abI fs [a] 1).2 (abI fs [a] 1).1 []).1
  rw [e1]
  obtain ⟨i1, _, i3, i4⟩ := abS_all (fs := fs) (k := 1) (parentsF fs a) [(a, 0)] []
  obtain ⟨p, hp, hpe⟩ := List.mem_map.1 (i3 b hb)
  rcases i4 p hp with q | ⟨q, _, _⟩
  · rw [List.mem_singleton.1 q] at hpe; exact absurd hpe hne
  · obtain ⟨p1, p2⟩ := p
    simp only at hpe q
    subst hpe
    subst q
    exact hp
end
/-- Ancestors: those whom a walk from a parent reaches. -/
def Anc (fs : List Fa) (a s : ByteArray) : Prop := ∃ p ∈ parentsF fs a, Up fs p s
theorem Anc.trans {fs : List Fa} {a b c : ByteArray} (h : Anc fs a b) (k : Anc fs b c) : Anc fs a c := by
  obtain ⟨p, hp, hu⟩ := h
  obtain ⟨q, hq, hv⟩ := k
  exact ⟨p, hp, (hu.step hq).trans hv⟩
theorem Anc.up {fs : List Fa} {a b : ByteArray} (h : Anc fs a b) : Up fs a b := by
  obtain ⟨p, hp, hu⟩ := h
  exact ((Up.here a).step hp).trans hu
section
variable {fs : List Fa} {a b : ByteArray} {iA iB jA jB : Nat} {fd fd' : Bool} {up dn bk ft : Nat}
  (h1 : (abI fs [a] iA).2 = []) (h2 : (abI fs [b] iB).2 = []) (hk : BestP (abI fs [a] iA).1 (abI fs [b] iB).1 fd up dn)
include h1 h2 hk
/-- Somebody is above both. -/
theorem kin_found : fd = true ↔ ∃ s, Up fs a s ∧ Up fs b s := by
  have hA := fun s => abI_has h1 s
  have hB := fun s => abI_has h2 s
  constructor
  · intro e
    obtain ⟨⟨q, hq, _, hs⟩, _⟩ := hk.2 e
    obtain ⟨f, hf, hu⟩ := (hA q.1).1 (List.mem_map.2 ⟨q, hq, rfl⟩)
    obtain ⟨g, hg, hv⟩ := (hB q.1).1 (List.mem_map.2 ⟨_, stepOf_mem hs, rfl⟩)
    rw [List.mem_singleton.1 hf] at hu
    rw [List.mem_singleton.1 hg] at hv
    exact ⟨q.1, hu, hv⟩
  · rintro ⟨s, hu, hv⟩
    cases hfd : fd with
    | true => rfl
    | false =>
      exfalso
      obtain ⟨p, hp, e⟩ := List.mem_map.1 ((hA s).2 ⟨a, by simp, hu⟩)
      obtain ⟨q, hq, e2⟩ := List.mem_map.1 ((hB s).2 ⟨b, by simp, hv⟩)
      have n1 := (hk.1 hfd).2.2 p hp
      have n2 := mem_stepOf (abI_once iB) (s := q.1) (k := q.2) hq
      rw [e, ← e2, n2] at n1
      cases n1
omit h1 h2 in
theorem kin_least (e : fd = true) {s : ByteArray} {x y : Nat} (hx : (s, x) ∈ (abI fs [a] iA).1) (hy : (s, y) ∈ (abI fs [b] iB).1) : up + dn ≤ x + y := by
  have := (hk.2 e).2 (s, x) hx y (mem_stepOf (abI_once iB) hy)
  simp only at this
  omega
omit h1 h2 in
theorem kin_is (e : fd = true) : ∃ s, (s, up) ∈ (abI fs [a] iA).1 ∧ (s, dn) ∈ (abI fs [b] iB).1 := by
  obtain ⟨⟨q, hq, e1, e2⟩, _⟩ := hk.2 e
  refine ⟨q.1, ?_, stepOf_mem e2⟩
  rw [← e1]
  exact hq
theorem kin_self (hab : a = b) (e : fd = true) : up = 0 ∧ dn = 0 := by
  have := kin_least hk e (self_step h1) (by rw [hab]; exact self_step h2)
  omega
theorem kin_parent (hb : b ∈ parentsF fs a) (hab : a ≠ b) (e : fd = true) : up + dn = 1 := by
  have := kin_least hk e (parent_step h1 hb hab) (self_step h2)
  obtain ⟨s, q1, q2⟩ := kin_is hk e
  rcases Nat.eq_zero_or_pos (up + dn) with q | q
  · obtain rfl : up = 0 := by omega
    obtain rfl : dn = 0 := by omega
    exact absurd ((zero_self q1).symm.trans (zero_self q2)) hab
  · omega
theorem kin_turn (h3 : (abI fs [b] jB).2 = []) (h4 : (abI fs [a] jA).2 = []) (hk2 : BestP (abI fs [b] jB).1 (abI fs [a] jA).1 fd' bk ft) : fd = fd' ∧ (fd = true → up + dn = bk + ft) := by
  have e : fd = fd' := by
    rw [Bool.eq_iff_iff, kin_found h1 h2 hk, kin_found h3 h4 hk2]
    exact ⟨fun ⟨s, x, y⟩ => ⟨s, y, x⟩, fun ⟨s, x, y⟩ => ⟨s, y, x⟩⟩
  refine ⟨e, fun q => ?_⟩
  have eA := abI_uniq h1 h4
  have eB := abI_uniq h2 h3
  obtain ⟨s, q1, q2⟩ := kin_is hk q
  obtain ⟨t, q3, q4⟩ := kin_is hk2 (e ▸ q)
  have l1 := kin_least hk2 (e ▸ q) (eB ▸ q2) (eA ▸ q1)
  have l2 := kin_least hk q (eA ▸ q4) (eB ▸ q3)
  omega
end
end

section
open Go Go.RowKit Go.Shelf
attribute [local go_sem] Oper.semAt_some

theorem undrew_a {V w : World} (h : Below V.drew.heap.size V.drew w) : Below V.heap.size V w := ⟨h.os, h.tape, h.output, h.size, h.block⟩
theorem mem_sortL {l : List ByteArray} {s : ByteArray} : s ∈ sortL l ↔ s ∈ l := by
  rw [← mem_bytesL, sortL, bytes_of, sortB, List.mem_mergeSort, mem_bytesL]
/-- What Ancestors answers. -/
def AncP (fs : List Fa) (a : ByteArray) (w : World) (e : Ending) (w' : World) : Prop := Below w.heap.size w w' ∧ ∃ v l, e = .returned (.tuple #[v, .int .i64 0]) ∧ Sl w' 1 v (namesV l) ∧ ∀ s, s ∈ l ↔ Anc fs a s
set_option maxRecDepth 100000 in
set_option maxHeartbeats 1000000 in
theorem ancestors_bad (r : Int) (hr : r = 3 ∨ r = 100 ∨ r = 2) (A : Option Addr) (n c : Nat) (F : Option Addr) (m d : Nat) (ps : List ByteArray) (fs : List Fa) (a : ByteArray) (w : World) (h : NetC w A n c F m d ps fs) (hs : Short ps) (hc : namedF ps fs [a] = r) :
    Calls Tryz.prog 33 #[.agg #[.slice A n c, .slice F m d], .string a] w fun e w' => e = .returned (.tuple #[.slice none 0 0, .int .i64 r]) ∧ Below w.heap.size w w' := by
  have hb0 := (below_alloc' w (.cells #[.slice A n c, .slice F m d] 25)).alloc (by simp) (.cells #[.string a] 9)
  have hS1 := Sl.new (s := 1) (w.alloc (.cells #[.slice A n c, .slice F m d] 25)) 9 1 1 #[.string a] rfl (Nat.le_refl _) (by decide)
  rw [World.size_alloc] at hS1
  have HK := Lib.hid (checkNames_any A n c F m d ps fs (.slice (some ⟨w.heap.size + 1, 0, none⟩) 1 1) [a] _ (h.below hb0) hs hS1)
  rw [hc] at HK
  clear h hs hc hS1
  rcases hr with rfl | rfl | rfl
  all_goals
    go_enter Tryz.func33, Tryz.ntmps33
    go_wp2_with fail
    refine HK.out.mono ?_
    rintro e w1 ⟨rfl, hb1⟩
    have HB := Lib.hid (hb0.trans (hb1.mono hb0.size))
    clear hb0 hb1
    go_wp2
    go_ret2
    exact ⟨rfl, HB.out⟩
set_option maxRecDepth 100000 in
set_option maxHeartbeats 4000000 in
theorem ancestors_good (A : Option Addr) (n c : Nat) (F : Option Addr) (m d : Nat) (ps : List ByteArray) (fs : List Fa) (a : ByteArray) (w : World) (h : NetC w A n c F m d ps fs) (hs : Short ps) (hc : namedF ps fs [a] = 0) (hf : AllAbout ps fs) (hp : ps.length ≤ 24) (hfew : fs.length ≤ 48) :
    Calls Tryz.prog 33 #[.agg #[.slice A n c, .slice F m d], .string a] w (AncP fs a w) := by
  have hb0 := (below_alloc' w (.cells #[.slice A n c, .slice F m d] 25)).alloc (by simp) (.cells #[.string a] 9)
  have y0 := (Cel.new w 25 #[.slice A n c, .slice F m d]).alloc (.cells #[.string a] 9)
  have hS1 := Sl.new (s := 1) (w.alloc (.cells #[.slice A n c, .slice F m d] 25)) 9 1 1 #[.string a] rfl (Nat.le_refl _) (by decide)
  rw [World.size_alloc] at hS1
  have HK := Lib.hid (checkNames_any A n c F m d ps fs (.slice (some ⟨w.heap.size + 1, 0, none⟩) 1 1) [a] _ (h.below hb0) hs hS1)
  rw [hc] at HK
  have HN := Lib.hid h
  have HA := Lib.hid (fun v w' h1 h3 => above_any A n c F m d ps fs v (parentsF fs a) w' h1 hf hp hfew h3 (fun s q => parentsF_mem hf q))
  have HP := Lib.hid (fun w' h1 => parents_any A n c F m d ps fs a w' h1 hfew)
  have HG := Lib.hid (fun i => (abI_good hf (frm := parentsF fs a) (fun s q => parentsF_mem hf q) i))
  have HPl := Lib.hid hp
  clear h hs hc hS1 hf
  go_enter Tryz.func33, Tryz.ntmps33
  go_wp2_with fail
  refine HK.out.mono ?_
  rintro e w1 ⟨rfl, hb1⟩
  have HB := Lib.hid (hb0.trans (hb1.mono hb0.size))
  have HY := Lib.hid (y0.below y0.lt hb1)
  have z0 := HY.out.cell 0 _ rfl
  have z1 := HY.out.cell 1 _ rfl
  have HR0 := Lib.hid (Below.refl w1.heap.size w1)
  have HLd : Hid (∀ w', Below w1.heap.size w1 w' → w'.cell? ⟨w.heap.size, 0, none⟩ = some (.slice A n c) ∧ w'.cell? ⟨w.heap.size, 1, none⟩ = some (.slice F m d)) := fun w' hb => ⟨below_cell hb z0, below_cell hb z1⟩
  clear hb0 hb1 y0 HK HY
  go_upto_region 5 with fail
  go_region_held3 (fun w' => w'.cell? ⟨w.heap.size, 0, none⟩ = some (.slice A n c) ∧ w'.cell? ⟨w.heap.size, 1, none⟩ = some (.slice F m d)) (first | exact HLd.out _ hB6 | exact HLd.out _ hB2 | exact HLd.out _ hB3 | exact HLd.out _ (by (repeat (first | exact hB2 | exact hB3 | exact HR0.out | refine below_drew ?_)); done) | go_keep)
    (first
    | (go_at_call 81; refine (HP.out _ (HN.out.below (by first | exact HB.out | exact below_drew HB.out))).mono ?_; rintro e w2 ⟨v2, rfl, ho2, hb2⟩; have hB2 : Below w1.heap.size w1 w2 := undrew_a (show Below w1.drew.heap.size w1.drew w2 from hb2); have HO2 := Lib.hid ho2)
    | (go_at_call 84; refine (HA.out _ _ (HN.out.below (HB.out.trans (hB2.mono HB.out.size))) (Sl.of_own HO2.out)).mono ?_; rintro e w3 ⟨i, hi, hsi, rfl, hm, hb3⟩; have hB3 : Below w1.heap.size w1 w3 := hB2.trans (hb3.mono hB2.size); have HM := Lib.hid hm; obtain ⟨bA, hbA⟩ : ∃ bA, w2.heap.size + 1 = bA := ⟨_, rfl⟩; rw [hbA] at HM hm ⊢; obtain ⟨w6, hrun, hr6, hg6, hs6⟩ := hm.range (P := Tryz.prog) (t := 104) Tryz.underlying104; have hB6 : Below w1.heap.size w1 w6 := hB3.grown hg6 hB3.size (fun j e => by cases e); clear hm hbA))
  have HB6 := Lib.hid (HB.out.trans (hB6.mono HB.out.size))
  have HR6 := Lib.hid hr6
  have HSi := Lib.hid hsi
  have HGi := Lib.hid (HG.out i)
  have HZ := Lib.hid (HB.out.trans (hB3.mono HB.out.size)).size
  have HbA := Lib.hid (HM.out.lt)
  have HS6 := Lib.hid (show w3.heap.size + 1 ≤ w6.heap.size by omega)
  clear hr6 hg6 hs6 hsi hi hb2 hb3 hB2 hB3 hB6 ho2 hrun z0 z1 HLd HM HO2 HR0
  generalize hmAe : (abI fs (parentsF fs a) i).1 = mA at *
  have HEA := Lib.hid hmAe
  clear hmAe
  generalize w3.heap.size = br at *
  go_wp2
  go_loopw [7] (fun u7 wr => ∃ (done rest : Sm), Hid ((done ++ rest).Perm mA) ∧ Hid (RangeW wr bA br (kvN mA) (kvN rest)) ∧ Hid (wr.ownsRow (br + 1) 9 1 u7 done.length (namesV (done.map (·.1)))) ∧ Hid (br + 1 ≤ wr.heap.size) ∧ Hid (Below w.heap.size w wr)) (fun _ wr => wr.rangeLeft bA br)
  case atStart => exact ⟨[], mA, List.Perm.refl _, HR6.out, World.ownsRow_nil _ _ _ _, HS6.out, HB6.out⟩
  case round =>
    clear HB6 HR6
    obtain ⟨done, rest, HPm, HR, HO, HSz, HBr⟩ := hrel
    have HLn := Lib.hid (show done.length ≤ 24 by
      have h1 := HPm.out.length_eq
      rw [List.length_append] at h1
      have h2 := nodup_le (l := mA.map (·.1)) (ps := ps) (by rw [← HEA.out]; exact HGi.out.once) (fun s hs => by rw [← HEA.out] at hs; obtain ⟨p, hp, rfl⟩ := List.mem_map.1 hs; exact HGi.out.who p hp)
      have h3 := HPl.out
      rw [List.length_map] at h2
      omega)
    obtain ⟨A5, c5, e5, _⟩ := own_shape HO.out
    subst e5
    rcases HR.out.next (P := Tryz.prog) 0 with ⟨h0, hn⟩ | ⟨pk, rest', w', hperm, hn, hr', hg', hsz, hen⟩
    · have he : rest = [] := by
        cases rest with
        | nil => rfl
        | cons z l => simp [kvN] at h0
      have HPd := Lib.hid (show done.Perm mA by have := HPm.out; rw [he, List.append_nil] at this; exact this)
      clear h0 he
      go_wp2_with fail
      have hso := sort_own (br + 1) (.slice A5 done.length c5) (done.map (·.1)) wr (by rw [List.length_map]; exact HO.out) (by have := HLn.out; rw [List.length_map]; omega)
      refine hso.mono ?_
      clear hso
      rintro e w4 ⟨rfl, ho4, hg4⟩
      have HO4 := Lib.hid ho4
      have HB4 := Lib.hid (below_of_own hg4 HO.out HBr.out (by have := HZ.out; omega))
      clear ho4 hg4
      go_wp2
      go_ret2
      refine ⟨HB4.out, _, sortL (done.map (·.1)), rfl, Sl.of_own HO4.out, fun s => ?_⟩
      rw [mem_sortL, (HPd.out.map (·.1)).mem_iff, ← HEA.out]
      exact abI_has HSi.out s
    · obtain ⟨q, rest2, rfl, rfl, hp2⟩ := kvN_perm hperm
      have HPd := Lib.hid (show ((done ++ [q]) ++ rest2).Perm mA by
        refine List.Perm.trans ?_ HPm.out
        rw [List.append_assoc]
        exact (hp2.symm.append_left done))
      have HR2 := Lib.hid hr'
      have HLen := Lib.hid (show (kvN rest).length = (kvN rest2).length + 1 by rw [hperm.length_eq]; rfl)
      clear hperm hr' hp2
      obtain ⟨s, x⟩ := q
      simp only at hn hen HPd
      have HO1 := Lib.hid (own_keep HO.out hg' (fun g h1 h2 => by have := own_ge HO.out h1; cases h2; omega))
      have HB1 := Lib.hid (HBr.out.grown hg' HBr.out.size (fun j e => by cases e; exact HZ.out))
      have HSz1 : Hid (br + 1 ≤ w'.heap.size) := by rw [hsz]; exact HSz.out
      clear hg' hsz
      have HSa := Lib.hid (Sl.new (s := 1) w' 9 1 1 #[.string s] rfl (Nat.le_refl _) (by decide))
      have HOa := Lib.hid (HO1.out.alloc (.cells #[.string s] 9))
      have HBa := Lib.hid (HB1.out.alloc HB1.out.size (.cells #[.string s] 9))
      have HSza := Lib.hid (show br + 1 ≤ (w'.alloc (.cells #[.string s] 9)).heap.size from Nat.le_trans HSz1.out (below_alloc' w' _).size)
      go_wp2_with (at_builtin; refine appStr _ _ rfl rfl rfl rfl HOa.out HSa.out (by simp [Value.oneCell']) (N := done.length + 1) (by simp) (by have := HLn.out; omega) HSza.out ?_; intro A9 c9 w9 hap)
      have HB9 := Lib.hid (below_of_own hap.grown HOa.out HBa.out (by have := HZ.out; omega))
      have HO9 := Lib.hid hap.own
      have HSz9 := Lib.hid (Nat.le_trans HSza.out hap.grown.size)
      have HR9 := Lib.hid ((HR2.out.kept (World.grownBy_alloc w' (.cells #[.string s] 9) none) (by simp) (by simp)).kept hap.grown (fun e => by have h1 := own_ge HOa.out e.symm; have := HbA.out; omega) (fun e => by have h1 := own_ge HOa.out e.symm; omega))
      clear hap
      go_wp2
      go_roundw
      case rel => exact ⟨done ++ [(s, x)], rest2, HPd.out, HR9.out, by rw [List.map_append, namesV_append, List.length_append]; exact HO9.out, HSz9.out, HB9.out⟩
      case measure => rw [HR9.out.left_eq, HR.out.left_eq, HLen.out]; omega
end
end Go.Proofs.YtdmcopjbckelmaaGreatDoor
