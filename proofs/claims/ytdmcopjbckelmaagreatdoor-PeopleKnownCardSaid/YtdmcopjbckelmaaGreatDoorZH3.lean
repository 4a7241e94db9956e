/- Plain: how far away people are among deeds; chains. No condition. Plain: circles of people who are connected. No condition. Plain: the network of deeds. No condition. Plain: the reference's list of people, its deeds' checks and its seals. No condition. -/
import Derived.Test.YtdmcopjbckelmaaGreatDoorZH1
import Derived.Test.YtdmcopjbckelmaaGreatDoorZG
import Derived.Test.YtdmcopjbckelmaaGreatDoorZM1
namespace Go.Proofs.YtdmcopjbckelmaaGreatDoor
section
open Go Go.RowKit Go.Shelf

/-- The relation of a map of lists. -/
def Rel (m : ByteArray → List ByteArray) (s t : ByteArray) : Prop := t ∈ m s
theorem dsS_new2 (d : Nat) : ∀ (l : List ByteArray) (out : Sm) (q : List ByteArray), ∃ n : List ByteArray,
    dsS d l out q = (out ++ n.map (fun s => (s, d)), q ++ n) ∧ (∀ s ∈ n, s ∈ l ∧ ¬ s ∈ out.map (·.1)) ∧ ∀ s ∈ l, s ∈ (out ++ n.map (fun s => (s, d))).map (·.1) := by
  intro l
  induction l with
  | nil => intro out q; exact ⟨[], by simp [dsS], by simp, by simp⟩
  | cons x l ih =>
    intro out q
    simp only [dsS]
    split
    · next hx =>
      obtain ⟨n, h1, h2, h3⟩ := ih out q
      refine ⟨n, h1, fun s hs => ⟨by simp [(h2 s hs).1], (h2 s hs).2⟩, fun s hs => ?_⟩
      rcases List.mem_cons.1 hs with rfl | z
      · rw [List.map_append, List.mem_append]; exact .inl (hasN_iff.1 hx)
      · exact h3 s z
    · next hx =>
      have hx' : ¬ x ∈ out.map (·.1) := fun z => hx (hasN_iff.2 z)
      obtain ⟨n, h1, h2, h3⟩ := ih (out ++ [(x, d)]) (q ++ [x])
      have e1 : out ++ (x :: n).map (fun s => (s, d)) = out ++ [(x, d)] ++ n.map (fun s => (s, d)) := by simp
      refine ⟨x :: n, ?_, fun s hs => ?_, fun s hs => ?_⟩
      · rw [h1, e1]; simp
      · rcases List.mem_cons.1 hs with rfl | z
        · exact ⟨by simp, hx'⟩
        · refine ⟨by simp [(h2 s z).1], fun y => (h2 s z).2 ?_⟩
          rw [List.map_append, List.mem_append]; exact .inl y
      · rw [e1]
        rcases List.mem_cons.1 hs with rfl | z
        · rw [List.map_append, List.mem_append]; left; simp
        · exact h3 s z
/-- The search under way: those of one distance that are left, then those one further away. -/
structure QI (R : ByteArray → ByteArray → Prop) (a : ByteArray) (D : Nat) (q1 q2 : List ByteArray) (out : Sm) : Prop where
  snd : ∀ p ∈ out, Lst R a p.2 p.1 ∧ p.2 ≤ D + 1
  all : ∀ k s, k ≤ D → Lst R a k s → (s, k) ∈ out
  done : ∀ s, Lst R a D s → s ∈ q1 ∨ ∀ t, R s t → t ∈ out.map (·.1)
  here : ∀ s ∈ q1, Lst R a D s
  next : ∀ s, s ∈ q2 ↔ (s, D + 1) ∈ out
theorem QI.shift {R : ByteArray → ByteArray → Prop} {a : ByteArray} {D : Nat} {q2 : List ByteArray} {out : Sm} (h : QI R a D [] q2 out) : QI R a (D + 1) q2 [] out := by
  have key : ∀ s, Lst R a (D + 1) s → (s, D + 1) ∈ out := fun s hs => by
    obtain ⟨r, hr, hrs⟩ := hs.prev
    rcases h.done r hr with q | q
    · cases q
    · obtain ⟨p, hp, e⟩ := List.mem_map.1 (q s hrs)
      have := (e ▸ (h.snd p hp).1 : Lst R a p.2 s).uniq hs
      have : p = (s, D + 1) := by rw [← e, ← this]
      rw [← this]; exact hp
  refine ⟨fun p hp => ⟨(h.snd p hp).1, by have := (h.snd p hp).2; omega⟩, fun k s hk hs => ?_, fun s hs => .inl ((h.next s).2 (key s hs)), fun s hs => ?_, fun s => ⟨fun q => (by cases q), fun q => ?_⟩⟩
  · rcases Nat.lt_or_ge D k with q | q
    · obtain rfl : k = D + 1 := by omega
      exact key s hs
    · exact h.all k s q hs
  · exact (h.snd _ ((h.next s).1 hs)).1
  · have := (h.snd _ q).2
    simp only at this
    omega
theorem QI.turn {m : ByteArray → List ByteArray} {a : ByteArray} {D : Nat} {s : ByteArray} {q1 q2 n : List ByteArray} {out : Sm} (h : QI (Rel m) a D (s :: q1) q2 out)
    (h2 : ∀ x ∈ n, x ∈ m s ∧ ¬ x ∈ out.map (·.1)) (h3 : ∀ x ∈ m s, x ∈ (out ++ n.map (fun s => (s, D + 1))).map (·.1)) : QI (Rel m) a D q1 (q2 ++ n) (out ++ n.map (fun s => (s, D + 1))) := by
  have hs := h.here s (by simp)
  have hn : ∀ x ∈ n, Lst (Rel m) a (D + 1) x := fun x hx => by
    refine hs.next (h2 x hx).1 fun j hj hl => (h2 x hx).2 ?_
    exact List.mem_map.2 ⟨_, h.all j x hj hl, rfl⟩
  refine ⟨fun p hp => ?_, fun k x hk hx => List.mem_append_left _ (h.all k x hk hx), fun x hx => ?_, fun x hx => h.here x (by simp [hx]), fun x => ?_⟩
  · rcases List.mem_append.1 hp with q | q
    · exact h.snd p q
    · obtain ⟨x, hx, rfl⟩ := List.mem_map.1 q
      exact ⟨hn x hx, Nat.le_refl _⟩
  · by_cases e : x = s
    · subst e; exact .inr h3
    · rcases h.done x hx with q | q
      · exact .inl (by simpa [e] using q)
      · refine .inr fun t ht => ?_
        rw [List.map_append, List.mem_append]; exact .inl (q t ht)
  · rw [List.mem_append, List.mem_append, h.next x]
    constructor
    · rintro (q | q)
      · exact .inl q
      · exact .inr (List.mem_map.2 ⟨x, q, rfl⟩)
    · rintro (q | q)
      · exact .inl q
      · obtain ⟨y, hy, e⟩ := List.mem_map.1 q
        have : y = x := by simpa using e
        rw [← this]; exact .inr hy
theorem dsI_qi (m : ByteArray → List ByteArray) (a : ByteArray) : ∀ i, ((dsI m a i).1.map (·.1)).Nodup ∧ ∃ D q1 q2, (dsI m a i).2 = q1 ++ q2 ∧ QI (Rel m) a D q1 q2 (dsI m a i).1 := by
  intro i
  induction i with
  | zero =>
    refine ⟨by simp [dsI], 0, [a], [], rfl, ⟨fun p hp => ?_, fun k s hk hs => ?_, fun s hs => .inl (by rw [hs.zero]; simp), fun s hs => ?_, fun s => ⟨fun q => (by cases q), fun q => ?_⟩⟩⟩
    · rw [show p = (a, 0) by simpa [dsI] using hp]; exact ⟨Lst.start, by omega⟩
    · obtain rfl : k = 0 := by omega
      rw [hs.zero]; simp [dsI]
    · rw [List.mem_singleton.1 hs]; exact Lst.start
    · simp [dsI] at q
  | succ i ih =>
    obtain ⟨hnd, D0, p1, p2, e0, h0⟩ := ih
    cases hq : (dsI m a i).2 with
    | nil =>
      have := dsI_stay hq 1
      rw [this]
      exact ⟨hnd, D0, p1, p2, e0, h0⟩
    | cons s q =>
      obtain ⟨D, q1, q2, e, h⟩ : ∃ D q1 q2, (dsI m a i).2 = s :: q1 ++ q2 ∧ QI (Rel m) a D (s :: q1) q2 (dsI m a i).1 := by
        cases p1 with
        | nil =>
          rw [List.nil_append] at e0
          refine ⟨D0 + 1, q, [], ?_, ?_⟩
          · rw [hq]; simp
          · have := h0.shift
            rw [← e0, hq] at this
            exact this
        | cons x p1 =>
          rw [hq] at e0
          obtain ⟨rfl, _⟩ := List.cons.inj (e0 : s :: q = x :: (p1 ++ p2))
          exact ⟨D0, p1, p2, by rw [hq, e0], h0⟩
      rw [hq] at e
      have eq : q = q1 ++ q2 := (List.cons.inj (e : s :: q = s :: (q1 ++ q2))).2
      rw [dsI_next hq]
      have hs := h.here s (by simp)
      have hst : stepOf (dsI m a i).1 s = some D := mem_stepOf hnd (h.all D s (Nat.le_refl _) hs)
      rw [hst]
      simp only [Option.getD_some]
      obtain ⟨n, n1, n2, n3⟩ := dsS_new2 (D + 1) (m s) (dsI m a i).1 q
      rw [n1]
      have hT := h.turn n2 n3
      refine ⟨?_, D, q1, q2 ++ n, by rw [eq]; simp, hT⟩
      have hu : (dsS (D + 1) (m s) (dsI m a i).1 q).1 = (dsI m a i).1 ++ n.map (fun s => (s, D + 1)) := by rw [n1]
      have key : ∀ (l : List ByteArray) (o : Sm) (z : List ByteArray), (o.map (·.1)).Nodup → ((dsS (D + 1) l o z).1.map (·.1)).Nodup := by
        intro l
        induction l with
        | nil => intro o z ho; exact ho
        | cons x l ihl =>
          intro o z ho
          simp only [dsS]
          split
          · exact ihl o z ho
          · next hx =>
            refine ihl _ _ ?_
            rw [List.map_append, List.nodup_append]
            refine ⟨ho, by simp, fun y hy w hw => ?_⟩
            simp only [List.map_cons, List.map_nil, List.mem_singleton] at hw
            subst hw
            exact fun e => hx (hasN_iff.2 (e ▸ hy))
      rw [← hu]
      exact key _ _ _ hnd
/-- The distances of the whole map. -/
theorem dsI_step {m : ByteArray → List ByteArray} {a : ByteArray} {i : Nat} (h : (dsI m a i).2 = []) (s : ByteArray) (k : Nat) : stepOf (dsI m a i).1 s = some k ↔ Lst (Rel m) a k s := by
  obtain ⟨hnd, D, q1, q2, e, hq⟩ := dsI_qi m a i
  rw [h] at e
  obtain ⟨rfl, rfl⟩ := List.append_eq_nil_iff.1 e.symm
  constructor
  · intro z; exact (hq.snd _ (stepOf_mem z)).1
  · intro z
    refine mem_stepOf hnd ?_
    rcases Nat.lt_or_ge D k with y | y
    · exfalso
      obtain ⟨t, ht⟩ := z.chain (D + 1) (by omega)
      have := hq.shift.all (D + 1) t (Nat.le_refl _) ht
      have := (hq.next t).2 this
      cases this
    · exact hq.all k s y z
/-- Two people met. -/
def Met (ds : List De) (s t : ByteArray) : Prop := ∃ d ∈ ds, takesB d s = true ∧ takesB d t = true
theorem Met.symm {ds : List De} {s t : ByteArray} (h : Met ds s t) : Met ds t s := by
  obtain ⟨d, h1, h2, h3⟩ := h
  exact ⟨d, h1, h3, h2⟩
theorem known_met {ds : List De} {s t : ByteArray} : t ∈ knownF ds s ↔ Met ds s t := by
  have e : t ∈ metF ds s ↔ Met ds s t := by
    unfold metF
    rw [mem_allF]
    unfold withF Met
    constructor
    · rintro ⟨d, h1, h2⟩
      obtain ⟨h3, h4⟩ := List.mem_filter.1 h1
      exact ⟨d, h3, h4, h2⟩
    · rintro ⟨d, h1, h2, h3⟩
      exact ⟨d, List.mem_filter.2 ⟨h1, h2⟩, h3⟩
  unfold knownF
  split
  · exact e
  · next h =>
    constructor
    · intro z; cases z
    · rintro ⟨d, h1, h2, _⟩
      exact absurd (mem_allF.2 ⟨d, h1, h2⟩) h
theorem rel_met (ds : List De) : Rel (knownF ds) = Met ds := by
  funext s t
  exact propext known_met
theorem met_all {ds : List De} : ∀ s t, Met ds s t → t ∈ allF ds := fun _ _ ⟨d, h1, _, h3⟩ => mem_allF.2 ⟨d, h1, h3⟩
theorem met_all1 {ds : List De} {s t : ByteArray} (h : Met ds s t) : s ∈ allF ds := met_all _ _ h.symm
theorem met_self {ds : List De} {s : ByteArray} (h : s ∈ allF ds) : Met ds s s := by
  obtain ⟨d, h1, h2⟩ := mem_allF.1 h
  exact ⟨d, h1, h2, h2⟩
theorem lv_add {R : ByteArray → ByteArray → Prop} {a b : ByteArray} {j : Nat} (h : Lv R a j b) : ∀ {k : Nat} {c : ByteArray}, Lv R b k c → Lv R a (j + k) c := by
  intro k
  induction k with
  | zero => intro c hc; rw [show c = b from hc]; exact h
  | succ k ih => rintro c ⟨s, hs, hr⟩; exact ⟨s, ih hs, hr⟩
theorem lv_turn {R : ByteArray → ByteArray → Prop} (hR : ∀ s t, R s t → R t s) {a : ByteArray} : ∀ {k : Nat} {b : ByteArray}, Lv R a k b → Lv R b k a := by
  intro k
  induction k with
  | zero => intro b h; rw [show b = a from h]; exact (rfl : a = a)
  | succ k ih =>
    rintro b ⟨s, hs, hr⟩
    have h1 : Lv R b 1 s := ⟨b, rfl, hR _ _ hr⟩
    have := lv_add h1 (ih hs)
    rw [Nat.add_comm] at this
    exact this
theorem lst_turn {R : ByteArray → ByteArray → Prop} (hR : ∀ s t, R s t → R t s) {a b : ByteArray} {k : Nat} : Lst R a k b ↔ Lst R b k a :=
  ⟨fun h => ⟨lv_turn hR h.1, fun j hj hl => h.2 j hj (lv_turn hR hl)⟩, fun h => ⟨lv_turn hR h.1, fun j hj hl => h.2 j hj (lv_turn hR hl)⟩⟩
/-- The rest of a chain. -/
def chT (m : ByteArray → List ByteArray) (away : Sm) : Nat → ByteArray → List ByteArray
  | 0, _ => []
  | n + 1, s => match (m s).find? (fun t => decide ((stepOf away t).getD 0 = n)) with
    | some t => t :: chT m away n t
    | none => chT m away n s
theorem getLastD_snoc (l : List ByteArray) (s d : ByteArray) : (l ++ [s]).getLastD d = s := by simp
theorem chN_chT {m : ByteArray → List ByteArray} {away : Sm} : ∀ (n : Nat) (l : List ByteArray) (s : ByteArray), chN m away n (l ++ [s]) = l ++ s :: chT m away n s := by
  intro n
  induction n with
  | zero => intro l s; simp [chN, chT]
  | succ n ih =>
    intro l s
    unfold chN chT
    rw [getLastD_snoc]
    cases (m s).find? (fun t => decide ((stepOf away t).getD 0 = n)) with
    | none => exact ih l s
    | some t =>
      simp only
      rw [ih (l ++ [s]) t]
      simp
/-- A chain from s to the one from whom all distances are. -/
theorem chT_good {ds : List De} {b : ByteArray} {i : Nat} (hi : (dsI (knownF ds) b i).2 = []) : ∀ (n : Nat) (s : ByteArray), Lst (Met ds) b n s → (chT (knownF ds) (dsI (knownF ds) b i).1 n s).length = n ∧
    (∀ j x y, (s :: chT (knownF ds) (dsI (knownF ds) b i).1 n s)[j]? = some x → (s :: chT (knownF ds) (dsI (knownF ds) b i).1 n s)[j + 1]? = some y → Met ds x y) ∧ (s :: chT (knownF ds) (dsI (knownF ds) b i).1 n s)[n]? = some b := by
  have hstep := fun s k => dsI_step hi s k
  rw [rel_met] at hstep
  intro n
  induction n with
  | zero =>
    intro s hs
    refine ⟨rfl, fun j x y h1 h2 => ?_, by rw [hs.zero]; rfl⟩
    simp [chT] at h2
  | succ n ih =>
    intro s hs
    obtain ⟨r, hr, hrs⟩ := hs.prev
    unfold chT
    cases hf : (knownF ds s).find? (fun t => decide ((stepOf (dsI (knownF ds) b i).1 t).getD 0 = n)) with
    | none =>
      rw [List.find?_eq_none] at hf
      have := hf r (known_met.2 hrs.symm)
      rw [(hstep r n).2 hr] at this
      simp at this
    | some t =>
      have h1 := known_met.1 (List.mem_of_find?_eq_some hf)
      have h2 := List.find?_some hf
      have hv : Lv (Met ds) b (n + 1 + 1) t := ⟨s, hs.1, h1⟩
      obtain ⟨k, _, hk⟩ := hv.least
      rw [(hstep t k).2 hk] at h2
      have : k = n := by simpa using h2
      subst this
      obtain ⟨i1, i2, i3⟩ := ih t hk
      simp only
      refine ⟨by simp [i1], fun j x y g1 g2 => ?_, by simpa using i3⟩
      cases j with
      | zero =>
        simp at g1 g2
        subst g1 g2
        exact h1
      | succ j => exact i2 j x y (by simpa using g1) (by simpa using g2)
/-- What Chain answers, in terms of least numbers of meetings. -/
theorem chainV_some {ds : List De} {a b : ByteArray} {i : Nat} {x : List ByteArray} (hi : (dsI (knownF ds) b i).2 = []) (h : chainV ds (dsI (knownF ds) b i).1 a b = some x) :
    ∃ n, Lst (Met ds) b n a ∧ a ∈ allF ds ∧ b ∈ allF ds ∧ x = a :: chT (knownF ds) (dsI (knownF ds) b i).1 n a := by
  unfold chainV at h
  cases hs : stepOf (dsI (knownF ds) b i).1 a with
  | none => rw [hs] at h; cases h
  | some n =>
    rw [hs] at h
    simp only at h
    by_cases e : a ∈ allF ds ∧ b ∈ allF ds
    · rw [if_pos e] at h
      cases h
      have := (dsI_step hi a n).1 hs
      rw [rel_met] at this
      exact ⟨n, this, e.1, e.2, by have := chN_chT (m := knownF ds) (away := (dsI (knownF ds) b i).1) n [] a; simpa using this⟩
    · rw [if_neg e] at h; cases h
theorem chainV_none {ds : List De} {a b : ByteArray} {i : Nat} (hi : (dsI (knownF ds) b i).2 = []) (h : chainV ds (dsI (knownF ds) b i).1 a b = none) : ¬ (a ∈ allF ds ∧ b ∈ allF ds ∧ ∃ n, Lst (Met ds) b n a) := by
  rintro ⟨h1, h2, n, hn⟩
  unfold chainV at h
  rw [(dsI_step hi a n).2 (by rw [rel_met]; exact hn)] at h
  simp only at h
  rw [if_pos ⟨h1, h2⟩] at h
  cases h
end

section
open Go Go.RowKit Go.Shelf

def Reach (ds : List De) (s t : ByteArray) : Prop := ∃ k, Lv (Met ds) s k t
theorem Reach.refl (ds : List De) (s : ByteArray) : Reach ds s s := ⟨0, rfl⟩
theorem Reach.symm {ds : List De} {s t : ByteArray} (h : Reach ds s t) : Reach ds t s := by
  obtain ⟨k, hk⟩ := h
  exact ⟨k, lv_turn (fun _ _ => Met.symm) hk⟩
theorem Reach.trans {ds : List De} {s t u : ByteArray} (h : Reach ds s t) (g : Reach ds t u) : Reach ds s u := by
  obtain ⟨k, hk⟩ := h
  obtain ⟨j, hj⟩ := g
  exact ⟨k + j, lv_add hk hj⟩
theorem Reach.all {ds : List De} {s t : ByteArray} (hs : s ∈ allF ds) (h : Reach ds s t) : t ∈ allF ds := by
  obtain ⟨k, hk⟩ := h
  cases k with
  | zero => rw [show t = s from hk]; exact hs
  | succ k => obtain ⟨r, _, hr⟩ := hk; exact met_all _ _ hr
theorem reach_lst {ds : List De} {s t : ByteArray} : Reach ds s t ↔ ∃ n, Lst (Met ds) s n t :=
  ⟨fun ⟨_, hk⟩ => by obtain ⟨j, _, hj⟩ := hk.least; exact ⟨j, hj⟩, fun ⟨n, hn⟩ => ⟨n, hn.1⟩⟩
/-- The search is over after so many turns. -/
theorem dsI_over {ds : List De} {s : ByteArray} (hs : s ∈ allF ds) : (dsI (knownF ds) s (allF ds).length).2 = [] := by
  have hU : ∀ r, ∀ t ∈ knownF ds r, t ∈ allF ds := fun r t ht => knownF_mem ht
  apply Classical.byContradiction
  intro hne
  have hpos : 0 < (allF ds).length := List.length_pos_of_mem hs
  have hp : (dsI (knownF ds) s ((allF ds).length - 1)).2 ≠ [] := fun z => hne (by
    have := dsI_stay z 1
    rw [show (allF ds).length - 1 + 1 = (allF ds).length by omega] at this
    rw [this]; exact z)
  have g := (dsI_good (U := allF ds) hs hU _ (.inr hp)).length
  have := List.length_pos_iff.2 hne
  omega
/-- The circle of a person. -/
def cirF (ds : List De) (s : ByteArray) : List ByteArray := setI ((dsI (knownF ds) s (allF ds).length).1.map (·.1))
theorem cir_inc (ds : List De) (s : ByteArray) : IncS (cirF ds s) := setI_inc _
theorem cir_keys {ds : List De} {s t : ByteArray} {i : Nat} (hi : (dsI (knownF ds) s i).2 = []) : t ∈ (dsI (knownF ds) s i).1.map (·.1) ↔ Reach ds s t := by
  have hst := fun k => dsI_step hi t k
  rw [rel_met] at hst
  rw [reach_lst]
  constructor
  · intro h
    obtain ⟨n, hn, _⟩ := stepOf_has' h
    exact ⟨n, (hst n).1 hn⟩
  · rintro ⟨n, hn⟩
    have := stepOf_mem ((hst n).2 hn)
    exact List.mem_map.2 ⟨_, this, rfl⟩
theorem cir_mem {ds : List De} {s t : ByteArray} (hs : s ∈ allF ds) : t ∈ cirF ds s ↔ Reach ds s t := by
  unfold cirF
  rw [mem_setI, cir_keys (dsI_over hs)]
/-- Another form of the same circle. -/
theorem cir_is {ds : List De} {s : ByteArray} {i : Nat} {l : List ByteArray} (hs : s ∈ allF ds) (hi : (dsI (knownF ds) s i).2 = []) (hl : IncS l) (hm : ∀ t, t ∈ l ↔ t ∈ (dsI (knownF ds) s i).1.map (·.1)) : l = cirF ds s :=
  incS_ext hl (cir_inc ds s) fun t => by rw [hm, cir_keys hi, cir_mem hs]
theorem cir_eq {ds : List De} {s t : ByteArray} (hs : s ∈ allF ds) (h : Reach ds s t) : cirF ds s = cirF ds t :=
  incS_ext (cir_inc ds s) (cir_inc ds t) fun u => by
    rw [cir_mem hs, cir_mem (h.all hs)]
    exact ⟨fun q => h.symm.trans q, fun q => h.trans q⟩
theorem incS_head {l : List ByteArray} {h s : ByteArray} (hl : IncS l) (e : l.head? = some h) (hs : s ∈ l) : h = s ∨ h.data.toList < s.data.toList := by
  cases l with
  | nil => cases e
  | cons x l =>
    cases e
    rcases List.mem_cons.1 hs with q | q
    · exact .inl q.symm
    · exact .inr ((incS_cons.1 hl).1 s q)
theorem incS_before {l : List ByteArray} (hl : IncS l) {i k : Nat} {r s : ByteArray} (hi : l[i]? = some r) (hk : l[k]? = some s) (h : r.data.toList < s.data.toList) : i < k := by
  unfold IncS IncB bytesL at hl
  rw [List.pairwise_map] at hl
  rcases Nat.lt_trichotomy i k with q | q | q
  · exact q
  · subst q
    rw [hi] at hk
    cases hk
    exact absurd h (List.lt_irrefl _)
  · exfalso
    have hil : i < l.length := by
      rcases Nat.lt_or_ge i l.length with y | y
      · exact y
      · rw [List.getElem?_eq_none y] at hi; cases hi
    have := List.pairwise_iff_getElem.1 hl k i (by omega) hil q
    rw [List.getElem?_eq_getElem (by omega)] at hi hk
    cases hi
    cases hk
    exact List.lt_irrefl _ (List.lt_trans h this)
theorem incS_after {l : List ByteArray} (hl : IncS l) {i k : Nat} {r s : ByteArray} (hi : l[i]? = some r) (hk : l[k]? = some s) (h : i < k) : r.data.toList < s.data.toList := by
  unfold IncS IncB bytesL at hl
  rw [List.pairwise_map] at hl
  have hkl : k < l.length := by
    rcases Nat.lt_or_ge k l.length with y | y
    · exact y
    · rw [List.getElem?_eq_none y] at hk; cases hk
  have := List.pairwise_iff_getElem.1 hl i k (by omega) hkl h
  rw [List.getElem?_eq_getElem (by omega)] at hi hk
  cases hi
  cases hk
  exact this
def firstB (ds : List De) (s : ByteArray) : Bool := decide ((cirF ds s).head? = some s)
/-- Somebody is the first of the circle exactly if nobody before was in it. -/
theorem first_iff {ds : List De} {k : Nat} {s : ByteArray} (hk : (allF ds)[k]? = some s) : firstB ds s = true ↔ ¬ ∃ j r, j < k ∧ (allF ds)[j]? = some r ∧ s ∈ cirF ds r := by
  have hs : s ∈ allF ds := List.mem_of_getElem? hk
  have hall : IncS (allF ds) := setL_inc _
  unfold firstB
  rw [decide_eq_true_eq]
  constructor
  · rintro e ⟨j, r, hj, hr, hm⟩
    have hrs : r ∈ allF ds := List.mem_of_getElem? hr
    have h1 := (cir_mem hrs).1 hm
    have h2 := (cir_mem hs).2 h1.symm
    have h3 := incS_after hall hr hk hj
    rcases incS_head (cir_inc ds s) e h2 with q | q
    · rw [q] at h3; exact List.lt_irrefl _ h3
    · exact List.lt_irrefl _ (List.lt_trans h3 q)
  · intro h
    have hself := (cir_mem hs).2 (Reach.refl ds s)
    cases he : (cirF ds s).head? with
    | none =>
      rw [List.head?_eq_none_iff] at he
      rw [he] at hself
      cases hself
    | some x =>
      rcases incS_head (cir_inc ds s) he hself with q | q
      · rw [q]
      · exfalso
        have hx : x ∈ cirF ds s := List.mem_of_mem_head? he
        have hr := (cir_mem hs).1 hx
        obtain ⟨j, hj⟩ := List.mem_iff_getElem?.1 (hr.all hs)
        exact h ⟨j, x, incS_before hall hj hk q, hj, (cir_mem (hr.all hs)).2 hr.symm⟩
def circlesF (ds : List De) : List (List ByteArray) := ((allF ds).filter (firstB ds)).map (cirF ds)
def circlesK (ds : List De) (k : Nat) : List (List ByteArray) := (((allF ds).take k).filter (firstB ds)).map (cirF ds)
theorem circlesK_succ {ds : List De} {k : Nat} {s : ByteArray} (hk : (allF ds)[k]? = some s) : circlesK ds (k + 1) = circlesK ds k ++ (if firstB ds s then [cirF ds s] else []) := by
  unfold circlesK
  rw [List.take_add_one, hk, List.filter_append, List.map_append]
  congr 1
  by_cases e : firstB ds s = true
  · rw [if_pos e]; simp [e]
  · rw [if_neg e]; simp [e]
theorem circlesK_all {ds : List De} {k : Nat} (h : (allF ds).length ≤ k) : circlesK ds k = circlesF ds := by
  unfold circlesK circlesF
  rw [List.take_of_length_le h]
/-- Everybody is in one circle. -/
theorem circles_has {ds : List De} {s : ByteArray} (hs : s ∈ allF ds) : ∃ c ∈ circlesF ds, s ∈ c := by
  have hself := (cir_mem hs).2 (Reach.refl ds s)
  cases he : (cirF ds s).head? with
  | none =>
    rw [List.head?_eq_none_iff] at he
    rw [he] at hself
    cases hself
  | some x =>
    have hx : x ∈ cirF ds s := List.mem_of_mem_head? he
    have hr := (cir_mem hs).1 hx
    have hxs := hr.all hs
    have heq := cir_eq hs hr
    refine ⟨cirF ds x, List.mem_map.2 ⟨x, List.mem_filter.2 ⟨hxs, ?_⟩, rfl⟩, by rw [← heq]; exact hself⟩
    unfold firstB
    rw [← heq, he]
    exact decide_eq_true rfl
theorem circles_of {ds : List De} {c : List ByteArray} (hc : c ∈ circlesF ds) : ∃ x, x ∈ allF ds ∧ c = cirF ds x ∧ c.head? = some x := by
  obtain ⟨x, hx, rfl⟩ := List.mem_map.1 hc
  obtain ⟨h1, h2⟩ := List.mem_filter.1 hx
  exact ⟨x, h1, rfl, of_decide_eq_true h2⟩
theorem circles_same {ds : List De} {c : List ByteArray} (hc : c ∈ circlesF ds) {s t : ByteArray} (hs : s ∈ c) : t ∈ c ↔ Reach ds s t := by
  obtain ⟨x, hx, rfl, _⟩ := circles_of hc
  have h1 := (cir_mem hx).1 hs
  rw [cir_mem hx]
  exact ⟨fun q => h1.symm.trans q, fun q => h1.trans q⟩
theorem circles_all {ds : List De} {c : List ByteArray} (hc : c ∈ circlesF ds) {s : ByteArray} (hs : s ∈ c) : s ∈ allF ds := by
  obtain ⟨x, hx, rfl, _⟩ := circles_of hc
  exact ((cir_mem hx).1 hs).all hx
theorem circles_nodup (ds : List De) : (circlesF ds).Nodup := by
  unfold circlesF
  have hn : ((allF ds).filter (firstB ds)).Nodup := (incS_nodup (setL_inc _)).sublist (List.filter_sublist (p := firstB ds))
  rw [List.nodup_iff_pairwise_ne, List.pairwise_map] 
  refine List.Pairwise.imp_of_mem ?_ (List.nodup_iff_pairwise_ne.1 hn)
  intro x y hx hy hne e
  have h1 := of_decide_eq_true (List.mem_filter.1 hx).2
  have h2 := of_decide_eq_true (List.mem_filter.1 hy).2
  rw [e, h2] at h1
  exact hne (Option.some.inj h1).symm
/-- The index of the first list that has a string. -/
def cidx (cs : List (List ByteArray)) (s : ByteArray) : Int := match cs.findIdx? (fun c => memB c s) with
  | some i => (i : Int)
  | none => -1
theorem cidx_no {ds : List De} {s : ByteArray} (h : ¬ s ∈ allF ds) : cidx (circlesF ds) s = -1 := by
  unfold cidx
  rw [List.findIdx?_eq_none_iff.2 fun c hc => memB_no.2 fun q => h (circles_all hc q)]
theorem cidx_yes {ds : List De} {s : ByteArray} (h : s ∈ allF ds) : ∃ i : Nat, cidx (circlesF ds) s = (i : Int) ∧ ∃ c, (circlesF ds)[i]? = some c ∧ s ∈ c := by
  unfold cidx
  cases hf : (circlesF ds).findIdx? (fun c => memB c s) with
  | none =>
    obtain ⟨c, hc, hs⟩ := circles_has h
    have := List.findIdx?_eq_none_iff.1 hf c hc
    rw [memB_iff.2 hs] at this
    cases this
  | some i =>
    obtain ⟨hi, h1, _⟩ := List.findIdx?_eq_some_iff_getElem.1 hf
    exact ⟨i, rfl, _, List.getElem?_eq_getElem hi, memB_iff.1 h1⟩
theorem cidx_same {ds : List De} {s t : ByteArray} : (0 ≤ cidx (circlesF ds) s ∧ cidx (circlesF ds) s = cidx (circlesF ds) t) ↔ (s ∈ allF ds ∧ t ∈ allF ds ∧ Reach ds s t) := by
  constructor
  · rintro ⟨h1, h2⟩
    by_cases hs : s ∈ allF ds
    · by_cases ht : t ∈ allF ds
      · refine ⟨hs, ht, ?_⟩
        obtain ⟨i, e1, c, c1, c2⟩ := cidx_yes hs
        obtain ⟨k, e2, d, d1, d2⟩ := cidx_yes ht
        rw [e1, e2] at h2
        have : i = k := by omega
        subst this
        rw [c1] at d1
        cases d1
        exact (circles_same (List.mem_of_getElem? c1) c2).1 d2
      · rw [cidx_no ht] at h2; omega
    · rw [cidx_no hs] at h1; omega
  · rintro ⟨hs, ht, hr⟩
    obtain ⟨i, e1, c, c1, c2⟩ := cidx_yes hs
    obtain ⟨k, e2, d, d1, d2⟩ := cidx_yes ht
    refine ⟨by omega, ?_⟩
    rw [e1, e2]
    have ht2 := (circles_same (List.mem_of_getElem? c1) c2).2 hr
    have hil : i < (circlesF ds).length := by
      rcases Nat.lt_or_ge i (circlesF ds).length with y | y
      · exact y
      · rw [List.getElem?_eq_none y] at c1; cases c1
    have hkl : k < (circlesF ds).length := by
      rcases Nat.lt_or_ge k (circlesF ds).length with y | y
      · exact y
      · rw [List.getElem?_eq_none y] at d1; cases d1
    have hcd : c = d := by
      obtain ⟨x, hx, rfl, _⟩ := circles_of (List.mem_of_getElem? c1)
      obtain ⟨y, hy, rfl, _⟩ := circles_of (List.mem_of_getElem? d1)
      have q1 := (cir_mem hx).1 ht2
      have q2 := (cir_mem hy).1 d2
      exact cir_eq hx (q1.trans q2.symm)
    subst hcd
    have hn := circles_nodup ds
    rw [List.nodup_iff_pairwise_ne, List.pairwise_iff_getElem] at hn
    rw [List.getElem?_eq_getElem hil] at c1
    rw [List.getElem?_eq_getElem hkl] at d1
    rcases Nat.lt_trichotomy i k with q | q | q
    · exact absurd ((Option.some.inj c1).trans (Option.some.inj d1).symm) (hn i k hil hkl q)
    · rw [q]
    · exact absurd ((Option.some.inj d1).trans (Option.some.inj c1).symm) (hn k i hkl hil q)
end

section
open Go Go.RowKit Go.Shelf

def IncZ (l : List Int) : Prop := l.Pairwise (· < ·)
def insZ (y : Int) : List Int → List Int
  | [] => [y]
  | x :: l => if y < x then y :: x :: l else if y = x then x :: l else x :: insZ y l
def setZ (l : List Int) : List Int := l.foldr insZ []
theorem mem_insZ {y z : Int} {l : List Int} : z ∈ insZ y l ↔ z = y ∨ z ∈ l := by
  induction l with
  | nil => simp [insZ]
  | cons x l ih =>
    unfold insZ
    split
    · simp
    · split
      · next h => subst h; simp
      · rw [List.mem_cons, ih, List.mem_cons]
        constructor
        · rintro (h | h | h)
          · exact .inr (.inl h)
          · exact .inl h
          · exact .inr (.inr h)
        · rintro (h | h | h)
          · exact .inr (.inl h)
          · exact .inl h
          · exact .inr (.inr h)
theorem insZ_inc {y : Int} {l : List Int} (h : IncZ l) : IncZ (insZ y l) := by
  induction l with
  | nil => simp [insZ, IncZ]
  | cons x l ih =>
    obtain ⟨h1, h2⟩ := List.pairwise_cons.1 h
    unfold insZ
    split
    · next hy =>
      refine List.pairwise_cons.2 ⟨fun z hz => ?_, h⟩
      rcases List.mem_cons.1 hz with rfl | q
      · exact hy
      · have := h1 z q; omega
    · split
      · exact h
      · refine List.pairwise_cons.2 ⟨fun z hz => ?_, ih h2⟩
        rcases mem_insZ.1 hz with rfl | q
        · omega
        · exact h1 z q
theorem setZ_inc (l : List Int) : IncZ (setZ l) := by
  induction l with
  | nil => exact List.Pairwise.nil
  | cons x l ih => exact insZ_inc ih
theorem mem_setZ {l : List Int} {z : Int} : z ∈ setZ l ↔ z ∈ l := by
  induction l with
  | nil => simp [setZ]
  | cons x l ih =>
    show z ∈ insZ x (setZ l) ↔ _
    rw [mem_insZ, ih, List.mem_cons]
theorem incZ_ext : ∀ {l m : List Int}, IncZ l → IncZ m → (∀ z, z ∈ l ↔ z ∈ m) → l = m := by
  intro l
  induction l with
  | nil =>
    intro m _ _ h
    cases m with
    | nil => rfl
    | cons y m => have := (h y).2 (by simp); cases this
  | cons x l ih =>
    intro m hl hm h
    cases m with
    | nil => have := (h x).1 (by simp); cases this
    | cons y m =>
      obtain ⟨a1, a2⟩ := List.pairwise_cons.1 hl
      obtain ⟨b1, b2⟩ := List.pairwise_cons.1 hm
      have e : x = y := by
        rcases List.mem_cons.1 ((h x).1 (by simp)) with q | q
        · exact q
        · rcases List.mem_cons.1 ((h y).2 (by simp)) with z | z
          · exact z.symm
          · have := b1 x q; have := a1 y z; omega
      subst e
      congr 1
      refine ih a2 b2 fun z => ?_
      have := h z
      rw [List.mem_cons, List.mem_cons] at this
      constructor
      · intro q
        rcases this.1 (.inr q) with r | r
        · have := a1 z q; omega
        · exact r
      · intro q
        rcases this.2 (.inr q) with r | r
        · have := b1 z q; omega
        · exact r
theorem setZ_length (l : List Int) : (setZ l).length ≤ l.length := by
  have h1 : ∀ y (m : List Int), (insZ y m).length ≤ m.length + 1 := by
    intro y m
    induction m with
    | nil => simp [insZ]
    | cons x m ih =>
      unfold insZ
      split
      · simp
      · split
        · simp
        · simp only [List.length_cons]; omega
  induction l with
  | nil => simp [setZ]
  | cons x l ih =>
    have := h1 x (setZ l)
    show (insZ x (setZ l)).length ≤ _
    simp only [List.length_cons]; omega
/-- The years in which a person takes part in deeds. -/
def yearsF (ds : List De) (s : ByteArray) : List Int := (withF ds s).map (·.year)
def actF (s : ByteArray) (y : Int) : Fa := ⟨5, s, ByteArray.empty, y⟩
def actsF (ds : List De) (s : ByteArray) : List Fa := (setZ (yearsF ds s)).map (actF s)
def factsD (ds : List De) : List Fa := (allF ds).flatMap (actsF ds)
theorem mem_yearsF {ds : List De} {s : ByteArray} {y : Int} : y ∈ yearsF ds s ↔ ∃ d ∈ ds, takesB d s = true ∧ d.year = y := by
  unfold yearsF withF
  rw [List.mem_map]
  constructor
  · rintro ⟨d, h1, h2⟩
    obtain ⟨h3, h4⟩ := List.mem_filter.1 h1
    exact ⟨d, h3, h4, h2⟩
  · rintro ⟨d, h1, h2, h3⟩
    exact ⟨d, List.mem_filter.2 ⟨h1, h2⟩, h3⟩
theorem mem_factsD {ds : List De} {f : Fa} : f ∈ factsD ds ↔ ∃ d ∈ ds, takesB d f.a = true ∧ f = actF f.a d.year := by
  unfold factsD actsF
  rw [List.mem_flatMap]
  constructor
  · rintro ⟨s, hs, hf⟩
    obtain ⟨y, hy, rfl⟩ := List.mem_map.1 hf
    obtain ⟨d, h1, h2, h3⟩ := mem_yearsF.1 (mem_setZ.1 hy)
    exact ⟨d, h1, h2, by rw [h3]; rfl⟩
  · rintro ⟨d, h1, h2, h3⟩
    refine ⟨f.a, mem_allF.2 ⟨d, h1, h2⟩, List.mem_map.2 ⟨d.year, mem_setZ.2 (mem_yearsF.2 ⟨d, h1, h2, rfl⟩), h3.symm⟩⟩
/-- Facts of one kind alone: a solution exists if no person's years are too far apart. -/
theorem acts_solve {ps : List ByteArray} {fs : List Fa} (hp : ps.length ≤ 24) (h : AllAbout ps fs) (hk : ∀ f ∈ fs, f.kind = 5) : (solveF ps fs).isSome = true ↔ ∀ f ∈ fs, ∀ g ∈ fs, f.a = g.a → f.at_ - g.at_ ≤ 90 := by
  rw [isSome_nsol hp h]
  constructor
  · rintro ⟨B, E, h1, h2⟩ f hf g hg e
    have c1 := h2 f hf
    have c2 := h2 g hg
    unfold condN at c1 c2
    rw [hk f hf] at c1
    rw [hk g hg] at c2
    simp at c1 c2
    have := h1 f.a (aboutB_iff.1 (h f hf)).2.1
    rw [← e] at c2
    omega
  · intro hall
    have key : ∀ s : ByteArray, ∃ m : Int, -1000 ≤ m ∧ m ≤ 1000 ∧ (∀ f ∈ fs, f.a = s → m ≤ f.at_ ∧ f.at_ ≤ m + 90) := by
      intro s
      have bd : ∀ f ∈ fs, -1000 ≤ f.at_ ∧ f.at_ ≤ 1000 := fun f hf => ((aboutB_iff.1 (h f hf)).2.2.2 (by rw [hk f hf]; decide)).2
      have step : ∀ l : List Fa, (∀ f ∈ l, f ∈ fs) → (∀ f ∈ l, ¬ f.a = s) ∨ ∃ g ∈ l, g.a = s ∧ ∀ f ∈ l, f.a = s → g.at_ ≤ f.at_ := by
        intro l
        induction l with
        | nil => intro _; exact .inl (by simp)
        | cons x l ih =>
          intro hl
          rcases ih (fun f hf => hl f (by simp [hf])) with q | ⟨g, hg, e1, e2⟩
          · by_cases hx : x.a = s
            · refine .inr ⟨x, by simp, hx, fun f hf e => ?_⟩
              rcases List.mem_cons.1 hf with rfl | z
              · exact Int.le_refl _
              · exact absurd e (q f z)
            · refine .inl fun f hf => ?_
              rcases List.mem_cons.1 hf with rfl | z
              · exact hx
              · exact q f z
          · right
            by_cases hx : x.a = s ∧ x.at_ < g.at_
            · refine ⟨x, by simp, hx.1, fun f hf e => ?_⟩
              rcases List.mem_cons.1 hf with rfl | z
              · exact Int.le_refl _
              · have := e2 f z e; omega
            · refine ⟨g, by simp [hg], e1, fun f hf e => ?_⟩
              rcases List.mem_cons.1 hf with rfl | z
              · have : ¬ f.at_ < g.at_ := fun z => hx ⟨e, z⟩
                omega
              · exact e2 f z e
      rcases step fs (fun f hf => hf) with q | ⟨g, hg, e1, e2⟩
      · exact ⟨0, by omega, by omega, fun f hf e => absurd e (q f hf)⟩
      · have := bd g hg
        refine ⟨g.at_, this.1, this.2, fun f hf e => ⟨e2 f hf e, ?_⟩⟩
        have := hall f hf g hg (e.trans e1.symm)
        omega
    refine ⟨fun s => (Classical.choose (key s)) - 10, fun s => (Classical.choose (key s)) + 90, fun s _ => ?_, fun f hf => ?_⟩
    · have := Classical.choose_spec (key s)
      simp only
      omega
    · have := (Classical.choose_spec (key f.a)).2.2 f hf rfl
      unfold condN
      rw [hk f hf]
      simp
      omega
/-- Deeds of two years too far apart, in which somebody takes part. -/
def farD (ds : List De) : Prop := ∃ d ∈ ds, ∃ e ∈ ds, 90 < d.year - e.year ∧ ∃ s, takesB d s = true ∧ takesB e s = true
theorem deeds_solve {ds : List De} (hp : (allF ds).length ≤ 24) (h : AllAbout (allF ds) (factsD ds)) : (solveF (allF ds) (factsD ds)).isSome = true ↔ ¬ farD ds := by
  rw [acts_solve hp h (fun f hf => by obtain ⟨d, _, _, e⟩ := mem_factsD.1 hf; rw [e]; rfl)]
  constructor
  · rintro hall ⟨d, hd, e, he, hy, s, h1, h2⟩
    have := hall (actF s d.year) (mem_factsD.2 ⟨d, hd, h1, rfl⟩) (actF s e.year) (mem_factsD.2 ⟨e, he, h2, rfl⟩) rfl
    simp only [actF] at this
    omega
  · intro hno f hf g hg e
    obtain ⟨d, d1, d2, d3⟩ := mem_factsD.1 hf
    obtain ⟨d', e1, e2, e3⟩ := mem_factsD.1 hg
    apply Classical.byContradiction
    intro q
    refine hno ⟨d, d1, d', e1, ?_, f.a, d2, by rw [e]; exact e2⟩
    rw [d3, e3] at q
    simp only [actF] at q
    omega
/-- The facts of deeds that are valid are about their people. -/
theorem factsD_about {ds : List De} (hy : ∀ d ∈ ds, -1000 ≤ d.year ∧ d.year ≤ 1000) : AllAbout (allF ds) (factsD ds) := fun f hf => by
  obtain ⟨d, d1, d2, d3⟩ := mem_factsD.1 hf
  have hm : f.a ∈ allF ds := mem_allF.2 ⟨d, d1, d2⟩
  have := hy d d1
  rw [d3]
  exact aboutB_iff.2 ⟨⟨show (1 : Int) ≤ 5 by decide, show (5 : Int) ≤ 7 by decide⟩, hm, fun q => absurd (show (5 : Int) ≤ 3 from q) (by decide), fun _ => ⟨rfl, this.1, this.2⟩⟩
end

section
open Go Go.RowKit Go.Shelf

theorem ins_at {s : ByteArray} : ∀ {l : List ByteArray} {k : Nat}, k ≤ l.length → (∀ j r, j < k → l[j]? = some r → r.data.toList < s.data.toList) → (∀ r, l[k]? = some r → s.data.toList < r.data.toList) → insS s l = l.take k ++ s :: l.drop k := by
  intro l
  induction l with
  | nil => intro k hk _ _; rw [show k = 0 by simpa using hk]; rfl
  | cons x l ih =>
    intro k hk h1 h2
    cases k with
    | zero =>
      have := h2 x rfl
      unfold insS
      rw [if_pos this]
      rfl
    | succ k =>
      have hx := h1 0 x (by omega) rfl
      unfold insS
      rw [if_neg (fun q => List.lt_irrefl _ (List.lt_trans hx q)), if_neg (fun q => by rw [q] at hx; exact List.lt_irrefl _ hx)]
      rw [ih (k := k) (by simpa using hk) (fun j r hj hr => h1 (j + 1) r (by omega) (by simpa using hr)) (fun r hr => h2 r (by simpa using hr))]
      rfl
theorem ins_has {s : ByteArray} {l : List ByteArray} (hl : IncS l) (h : s ∈ l) : insS s l = l :=
  incS_ext (insS_inc hl) hl fun x => by rw [mem_insS]; exact ⟨fun q => by rcases q with q | q; rw [q]; exact h; exact q, fun q => .inr q⟩
/-- The list of people of the first so many deeds, and of so many witnesses of the next one. -/
theorem setI_snoc_mem {l : List ByteArray} {s : ByteArray} : insS s (setI l) = setI (l ++ [s]) :=
  incS_ext (insS_inc (setI_inc l)) (setI_inc _) fun x => by
    rw [mem_insS, mem_setI, mem_setI, List.mem_append, List.mem_singleton]
    exact ⟨fun q => q.symm, fun q => q.symm⟩
theorem setI_append {l m : List ByteArray} : setI (l ++ m) = m.foldl (fun acc s => insS s acc) (setI l) := by
  induction m generalizing l with
  | nil => simp
  | cons s m ih =>
    rw [List.foldl_cons, setI_snoc_mem, ← ih]
    simp
theorem known_filter {ds : List De} {s : ByteArray} (p : ByteArray → Bool) (hp : ∀ t, p t = true ↔ Met ds s t) : (allF ds).filter p = knownF ds s := by
  have hk : IncS (knownF ds s) := by
    unfold knownF
    split
    · exact setL_inc _
    · exact List.Pairwise.nil
  refine incS_ext (incS_filter (setL_inc _) p) hk fun t => ?_
  rw [List.mem_filter, hp, known_met]
  exact ⟨fun q => q.2, fun q => ⟨met_all _ _ q, q⟩⟩
/-- In how many deeds two people take part. -/
def togF (ds : List De) (a b : ByteArray) : Nat := (ds.filter fun d => takesB d a && takesB d b).length
theorem tog_met {ds : List De} {a b : ByteArray} : 0 < togF ds a b ↔ Met ds a b := by
  unfold togF Met
  rw [List.length_pos_iff_exists_mem]
  constructor
  · rintro ⟨d, hd⟩
    obtain ⟨h1, h2⟩ := List.mem_filter.1 hd
    rw [Bool.and_eq_true] at h2
    exact ⟨d, h1, h2.1, h2.2⟩
  · rintro ⟨d, h1, h2, h3⟩
    exact ⟨d, List.mem_filter.2 ⟨h1, by rw [h2, h3]; rfl⟩⟩
theorem tog_succ {ds : List De} {k : Nat} {d : De} (h : ds[k]? = some d) (a b : ByteArray) : togF (ds.take (k + 1)) a b = togF (ds.take k) a b + (if takesB d a && takesB d b then 1 else 0) := by
  unfold togF
  rw [List.take_add_one, h, List.filter_append, List.length_append]
  congr 1
  by_cases e : (takesB d a && takesB d b) = true
  · rw [if_pos e]; simp [e]
  · rw [if_neg e]; simp [e]
theorem tog_le (ds : List De) (a b : ByteArray) (k : Nat) : togF (ds.take k) a b ≤ k := by
  unfold togF
  exact Nat.le_trans (List.length_filter_le _ _) (by simp; omega)
end
end Go.Proofs.YtdmcopjbckelmaaGreatDoor
