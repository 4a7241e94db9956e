/- Plain: a chain as the reference finds it. No condition. Plain: the reference's list of people, its network of deeds, its circles, the seals. No condition. -/
import Derived.Test.YtdmcopjbckelmaaGreatDoorZH3
namespace Go.Proofs.YtdmcopjbckelmaaGreatDoor
section
open Go Go.RowKit

theorem away_met {ds : List De} {b : ByteArray} {i : Nat} (hi : (dsI (knownF ds) b i).2 = []) {n : Nat} {s r : ByteArray} (hs : Lst (Met ds) b n s) (hm : Met ds s r) {k : Nat} : (stepOf (dsI (knownF ds) b i).1 r).getD 0 = k ↔ Lst (Met ds) b k r := by
  have hv : Lv (Met ds) b (n + 1) r := ⟨s, hs.1, hm⟩
  obtain ⟨j, _, hj⟩ := hv.least
  have e := (dsI_step hi r j).2 (by rw [rel_met]; exact hj)
  rw [e]
  constructor
  · intro q
    have q' : j = k := q
    rw [← q']
    exact hj
  · intro q
    exact hj.uniq q
theorem chT_next {ds : List De} {b : ByteArray} {i : Nat} (hi : (dsI (knownF ds) b i).2 = []) {n k : Nat} {s t : ByteArray} (hs : Lst (Met ds) b (n + 1) s) (hk : (allF ds)[k]? = some t) (hd : Lst (Met ds) b n t) (hm : Met ds s t)
    (hn : ∀ j r, j < k → (allF ds)[j]? = some r → Lst (Met ds) b n r → ¬ Met ds s r) : chT (knownF ds) (dsI (knownF ds) b i).1 (n + 1) s = t :: chT (knownF ds) (dsI (knownF ds) b i).1 n t := by
  have e : (knownF ds s).find? (fun t => decide ((stepOf (dsI (knownF ds) b i).1 t).getD 0 = n)) = some t := by
    rw [← known_filter (fun t => decide (0 < togF ds s t)) (fun t => by rw [decide_eq_true_iff]; exact tog_met), List.find?_filter]
    refine find_at hk (fun x hx => ?_) ?_
    · obtain ⟨j, hj⟩ := List.mem_iff_getElem?.1 hx
      rw [List.getElem?_take] at hj
      split at hj
      · next z =>
        rw [decide_eq_false_iff_not]
        rintro ⟨q1, q2⟩
        have q1' := tog_met.1 (of_decide_eq_true q1)
        exact hn j x z hj ((away_met hi hs q1').1 (of_decide_eq_true q2)) q1'
      · cases hj
    · rw [decide_eq_true_iff]
      exact ⟨decide_eq_true (tog_met.2 hm), decide_eq_true ((away_met hi hs hm).2 hd)⟩
  show (match (knownF ds s).find? (fun t => decide ((stepOf (dsI (knownF ds) b i).1 t).getD 0 = n)) with
    | some t => t :: chT (knownF ds) (dsI (knownF ds) b i).1 n t
    | none => chT (knownF ds) (dsI (knownF ds) b i).1 n s) = _
  rw [e]
/-- The chain of two people, if there is one. -/
def chainF (ds : List De) (a b : ByteArray) : Option (List ByteArray) := chainV ds (dsI (knownF ds) b (allF ds).length).1 a b
theorem chainF_is {ds : List De} {a b : ByteArray} {i : Nat} (hi : (dsI (knownF ds) b i).2 = []) : chainV ds (dsI (knownF ds) b i).1 a b = chainF ds a b := by
  unfold chainF
  by_cases hb : b ∈ allF ds
  · rw [dsI_uniq hi (dsI_over hb)]
  · unfold chainV
    cases stepOf (dsI (knownF ds) b i).1 a <;> cases stepOf (dsI (knownF ds) b (allF ds).length).1 a <;> simp [hb]
theorem chainF_not {ds : List De} {a b : ByteArray} (h : ¬ (a ∈ allF ds ∧ b ∈ allF ds)) : chainF ds a b = none := by
  unfold chainF chainV
  cases stepOf (dsI (knownF ds) b (allF ds).length).1 a with
  | none => rfl
  | some n => exact if_neg h
theorem chainF_far {ds : List De} {a b : ByteArray} (h : ∀ d, ¬ Lv (Met ds) b d a) : chainF ds a b = none := by
  by_cases hb : b ∈ allF ds
  · unfold chainF chainV
    cases hq : stepOf (dsI (knownF ds) b (allF ds).length).1 a with
    | none => rfl
    | some n =>
      have := (dsI_step (dsI_over hb) a n).1 hq
      rw [rel_met] at this
      exact absurd this.1 (h n)
  · exact chainF_not (fun q => hb q.2)
theorem chainF_some {ds : List De} {a b : ByteArray} {n : Nat} (ha : a ∈ allF ds) (hb : b ∈ allF ds) (h : Lst (Met ds) b n a) : chainF ds a b = some (a :: chT (knownF ds) (dsI (knownF ds) b (allF ds).length).1 n a) := by
  have e := (dsI_step (dsI_over hb) a n).2 (by rw [rel_met]; exact h)
  unfold chainF chainV
  rw [e]
  show (if a ∈ allF ds ∧ b ∈ allF ds then some (chN (knownF ds) (dsI (knownF ds) b (allF ds).length).1 n ([] ++ [a])) else none) = _
  rw [if_pos ⟨ha, hb⟩, chN_chT]
  rfl
/-- What Chain answers. -/
def chL (ds : List De) (a b : ByteArray) : List ByteArray := if checkDF ds = 0 then (chainF ds a b).getD [] else []
def chE (ds : List De) (a b : ByteArray) : Int := if checkDF ds = 0 then (if (chainF ds a b).isSome then 0 else 4) else checkDF ds
def ChainR (ds : List De) (a b : ByteArray) (w : World) (e : Ending) (w' : World) : Prop :=
  Below w.heap.size w w' ∧ ∃ v, e = .returned (.tuple #[v, .int .i64 (chE ds a b)]) ∧ Sl w' 1 v (namesV (chL ds a b))
theorem chE_bad {ds : List De} {a b : ByteArray} (h : checkDF ds ≠ 0) : chE ds a b = checkDF ds ∧ chL ds a b = [] := ⟨if_neg h, if_neg h⟩
theorem chE_none {ds : List De} {a b : ByteArray} (h : checkDF ds = 0) (h2 : chainF ds a b = none) : chE ds a b = 4 ∧ chL ds a b = [] := by
  unfold chE chL
  rw [if_pos h, if_pos h, h2]
  exact ⟨rfl, rfl⟩
theorem chE_some {ds : List De} {a b : ByteArray} {l : List ByteArray} (h : checkDF ds = 0) (h2 : chainF ds a b = some l) : chE ds a b = 0 ∧ chL ds a b = l := by
  unfold chE chL
  rw [if_pos h, if_pos h, h2]
  exact ⟨rfl, rfl⟩
/-- The program's Chain. -/
theorem chain_any (v : Value) (ds : List De) (a b : ByteArray) (w : World) (h : DeedsV w v ds) (hs : ShortDs ds) :
    Calls Tryz.prog 19 #[v, .string a, .string b] w (ChainR ds a b w) := by
  by_cases hc : checkDF ds = 0
  · refine (chain_good v ds a b w h hs hc).mono ?_
    rintro e w' ⟨hb, i, hi, hm⟩
    refine ⟨hb, ?_⟩
    rw [chainF_is hi] at hm
    cases hq : chainF ds a b with
    | none =>
      rw [hq] at hm
      obtain ⟨e1, e2⟩ := chE_none hc hq
      rw [e1, e2]
      exact ⟨_, hm, Sl.nil0 _ _⟩
    | some l =>
      rw [hq] at hm
      obtain ⟨e1, e2⟩ := chE_some hc hq
      obtain ⟨v', q1, q2⟩ := hm
      rw [e1, e2]
      exact ⟨v', q1, q2⟩
  · have hr : checkDF ds = 3 ∨ checkDF ds = 102 := by
      unfold checkDF at hc ⊢
      split
      · exact .inl rfl
      · rename_i q
        rw [if_neg q] at hc
        split
        · rename_i z; rw [if_pos z] at hc; exact absurd rfl hc
        · exact .inr rfl
    refine (chain_bad _ hr v ds a b w h hs rfl).mono ?_
    rintro e w' ⟨he, hb⟩
    obtain ⟨e1, e2⟩ := chE_bad (a := a) (b := b) hc
    refine ⟨hb, ?_⟩
    rw [e1, e2]
    exact ⟨_, he, Sl.nil0 _ _⟩
end

section
open Go Go.RowKit

theorem insS_length (s : ByteArray) : ∀ l : List ByteArray, (insS s l).length ≤ l.length + 1 := by
  intro l
  induction l with
  | nil => simp [insS]
  | cons t l ih =>
    unfold insS
    split
    · simp
    · split
      · simp
      · simp only [List.length_cons]; omega
/-- An insertion, step by step: what is written of the list behind so many of its strings. -/
def AddS (l : List ByteArray) (s : ByteArray) (k : Nat) (done : Bool) (out : List ByteArray) : Prop :=
  out.length ≤ k + 1 ∧ ((done = false ∧ out = l.take k ∧ ∀ j r, j < k → l[j]? = some r → r.data.toList < s.data.toList) ∨
    (done = true ∧ ∃ p, p ≤ k ∧ insS s l = l.take p ++ s :: l.drop p ∧ out = l.take p ++ s :: (l.drop p).take (k - p)))
theorem AddS.start (l : List ByteArray) (s : ByteArray) : AddS l s 0 false [] := ⟨by simp, .inl ⟨rfl, by simp, fun _ _ h => absurd h (Nat.not_lt_zero _)⟩⟩
theorem bytes_tri {s r : ByteArray} (h1 : ¬ s.data.toList < r.data.toList) (h2 : r ≠ s) : r.data.toList < s.data.toList := by
  rcases Classical.em (r.data.toList < s.data.toList) with h | h
  · exact h
  · exact absurd (data_inj (List.le_antisymm h1 h)) h2
theorem AddS.skip {l : List ByteArray} {s : ByteArray} {k : Nat} {out : List ByteArray} {r : ByteArray} (h : AddS l s k false out) (hk : l[k]? = some r) (hn : ¬ s ∈ l) (hlt : ¬ s.data.toList < r.data.toList) : AddS l s (k + 1) false (out ++ [r]) := by
  obtain ⟨hl, ⟨_, rfl, h2⟩ | ⟨q, _⟩⟩ := h
  · refine ⟨by rw [List.length_append]; simp only [List.length_cons, List.length_nil]; omega, .inl ⟨rfl, by rw [List.take_add_one, hk]; rfl, fun j x hj hx => ?_⟩⟩
    rcases Nat.lt_succ_iff_lt_or_eq.1 hj with z | z
    · exact h2 j x z hx
    · rw [z, hk] at hx
      cases hx
      exact bytes_tri hlt (fun e => hn (e ▸ List.mem_of_getElem? hk))
  · cases q
theorem AddS.put {l : List ByteArray} {s : ByteArray} {k : Nat} {out : List ByteArray} {r : ByteArray} (h : AddS l s k false out) (hk : l[k]? = some r) (hlt : s.data.toList < r.data.toList) : AddS l s (k + 1) true (out ++ [s] ++ [r]) := by
  obtain ⟨hl, ⟨_, rfl, h2⟩ | ⟨q, _⟩⟩ := h
  · have hkl : k < l.length := by
      rcases Nat.lt_or_ge k l.length with z | z
      · exact z
      · rw [List.getElem?_eq_none z] at hk; cases hk
    refine ⟨by simp only [List.length_append, List.length_cons, List.length_nil, List.length_take]; omega, .inr ⟨rfl, k, by omega, ins_at (by omega) h2 (fun x hx => by rw [hk] at hx; cases hx; exact hlt), ?_⟩⟩
    rw [show k + 1 - k = 0 + 1 by omega, List.take_add_one, List.getElem?_drop, Nat.add_zero, hk]
    simp
  · cases q
theorem AddS.go {l : List ByteArray} {s : ByteArray} {k : Nat} {out : List ByteArray} {r : ByteArray} (h : AddS l s k true out) (hk : l[k]? = some r) : AddS l s (k + 1) true (out ++ [r]) := by
  obtain ⟨hl, ⟨q, _⟩ | ⟨_, p, h1, h2, rfl⟩⟩ := h
  · cases q
  · refine ⟨by rw [List.length_append]; simp only [List.length_cons, List.length_nil]; omega, .inr ⟨rfl, p, by omega, h2, ?_⟩⟩
    rw [show k + 1 - p = (k - p) + 1 by omega, List.take_add_one, List.getElem?_drop, show p + (k - p) = k by omega, hk]
    simp
theorem AddS.endF {l : List ByteArray} {s : ByteArray} {k : Nat} {out : List ByteArray} (h : AddS l s k false out) (hk : l.length ≤ k) : out ++ [s] = insS s l := by
  obtain ⟨hl, ⟨_, rfl, h2⟩ | ⟨q, _⟩⟩ := h
  · rw [List.take_of_length_le hk, ins_at (k := l.length) (by omega) (fun j r hj => h2 j r (by omega)) (fun r hr => by rw [List.getElem?_eq_none (Nat.le_refl _)] at hr; cases hr)]
    simp
  · cases q
theorem AddS.endT {l : List ByteArray} {s : ByteArray} {k : Nat} {out : List ByteArray} (h : AddS l s k true out) (hk : l.length ≤ k) : out = insS s l := by
  obtain ⟨hl, ⟨q, _⟩ | ⟨_, p, h1, h2, rfl⟩⟩ := h
  · cases q
  · have e : (l.drop p).take (k - p) = l.drop p := List.take_of_length_le (by rw [List.length_drop]; omega)
    rw [h2, e]
/-- The people of the first so many deeds. -/
def pplT (ds : List De) (i : Nat) : List ByteArray := setI (partL (ds.take i))
def pplW (ds : List De) (i : Nat) (d : De) (k : Nat) : List ByteArray := setI (partL (ds.take i) ++ d.sealer :: d.wit.take k)
theorem pplT_zero (ds : List De) : pplT ds 0 = [] := rfl
theorem pplT_all {ds : List De} {i : Nat} (h : ds.length ≤ i) : pplT ds i = allF ds := by
  unfold pplT allF
  rw [List.take_of_length_le h, setL_setI]
theorem pplW_zero {ds : List De} {i : Nat} (d : De) : insS d.sealer (pplT ds i) = pplW ds i d 0 := by
  unfold pplT pplW
  rw [setI_snoc_mem]
  simp
theorem pplW_succ {ds : List De} {i k : Nat} {d : De} {s : ByteArray} (h : d.wit[k]? = some s) : insS s (pplW ds i d k) = pplW ds i d (k + 1) := by
  unfold pplW
  rw [setI_snoc_mem, List.take_add_one, h]
  simp
theorem pplW_all {ds : List De} {i k : Nat} {d : De} (hd : ds[i]? = some d) (h : d.wit.length ≤ k) : pplW ds i d k = pplT ds (i + 1) := by
  unfold pplW pplT
  rw [partL_take hd, List.take_of_length_le h]
  simp
theorem pplT_inc (ds : List De) (i : Nat) : IncS (pplT ds i) := setI_inc _
theorem pplW_inc (ds : List De) (i : Nat) (d : De) (k : Nat) : IncS (pplW ds i d k) := setI_inc _
theorem setI_length (l : List ByteArray) : (setI l).length ≤ l.length := by
  rw [← setL_setI]
  exact setL_length_le l
theorem pplT_length {ds : List De} (h : Few ds) (i : Nat) : (pplT ds i).length ≤ 832 := Nat.le_trans (setI_length _) (h.take i).len
theorem pplW_length {ds : List De} (h : Few ds) {i k : Nat} {d : De} (hd : d ∈ ds) : (pplW ds i d k).length ≤ 900 := by
  refine Nat.le_trans (setI_length _) ?_
  have h1 := (h.take i).len
  have h2 := h.2 d hd
  simp only [List.length_append, List.length_cons, List.length_take]
  omega
/-- The network of deeds. -/
def fromD (ds : List De) : List ByteArray × List Fa × Int :=
  if checkDF ds ≠ 0 then ([], [], checkDF ds) else if 24 < (allF ds).length ∨ 48 < (factsD ds).length then ([], [], 3) else (allF ds, factsD ds, 0)
def factsK (ds : List De) (k : Nat) : List Fa := ((allF ds).take k).flatMap (actsF ds)
theorem factsK_zero (ds : List De) : factsK ds 0 = [] := rfl
theorem factsK_succ {ds : List De} {k : Nat} {s : ByteArray} (h : (allF ds)[k]? = some s) : factsK ds (k + 1) = factsK ds k ++ actsF ds s := by
  unfold factsK
  rw [List.take_add_one, h, List.flatMap_append]
  simp
theorem factsK_all {ds : List De} {k : Nat} (h : (allF ds).length ≤ k) : factsK ds k = factsD ds := by
  unfold factsK factsD
  rw [List.take_of_length_le h]
theorem yearsF_length {ds : List De} (h : ds.length ≤ 64) (s : ByteArray) : (yearsF ds s).length ≤ 64 := by
  unfold yearsF withF
  rw [List.length_map]
  exact Nat.le_trans (List.length_filter_le _ _) h
theorem actsF_length {ds : List De} (h : ds.length ≤ 64) (s : ByteArray) : (actsF ds s).length ≤ 64 := by
  unfold actsF
  rw [List.length_map]
  exact Nat.le_trans (setZ_length _) (yearsF_length h s)
theorem factsK_length {ds : List De} (h : ds.length ≤ 64) : ∀ k, (factsK ds k).length ≤ k * 64 := by
  intro k
  induction k with
  | zero => simp [factsK]
  | succ k ih =>
    cases hk : (allF ds)[k]? with
    | none =>
      have h1 : (allF ds).length ≤ k := List.getElem?_eq_none_iff.1 hk
      rw [factsK_all (by omega), ← factsK_all h1]
      omega
    | some s =>
      rw [factsK_succ hk, List.length_append]
      have := actsF_length h s
      omega
theorem years_take {ds : List De} {k : Nat} {d : De} (h : ds[k]? = some d) (s : ByteArray) : yearsF (ds.take (k + 1)) s = yearsF (ds.take k) s ++ (if takesB d s then [d.year] else []) := by
  unfold yearsF withF
  rw [List.take_add_one, h, List.filter_append, List.map_append]
  congr 1
  show ([d].filter fun d => takesB d s).map (·.year) = _
  cases hq : takesB d s <;> simp [hq]
/-- The years in which a person acts, as the reference finds them. -/
def yB (ds : List De) (s : ByteArray) (y : Int) : Bool := ds.any fun d => decide (d.year = y) && takesB d s
def yrs (ds : List De) (s : ByteArray) (m : Nat) : List Int := ((List.range m).map fun (j : Nat) => (j : Int) - 1000).filter (yB ds s)
theorem yB_take {ds : List De} {k : Nat} {d : De} (h : ds[k]? = some d) (s : ByteArray) (y : Int) : yB (ds.take (k + 1)) s y = (yB (ds.take k) s y || (decide (d.year = y) && takesB d s)) := by
  unfold yB
  rw [List.take_add_one, h, List.any_append]
  simp
theorem yrs_zero (ds : List De) (s : ByteArray) : yrs ds s 0 = [] := rfl
theorem yrs_succ (ds : List De) (s : ByteArray) (m : Nat) : yrs ds s (m + 1) = yrs ds s m ++ (if yB ds s ((m : Int) - 1000) then [(m : Int) - 1000] else []) := by
  unfold yrs
  rw [List.range_succ, List.map_append, List.filter_append]
  congr 1
  cases hq : yB ds s ((m : Int) - 1000) <;> simp [hq]
theorem yrs_length (ds : List De) (s : ByteArray) (m : Nat) : (yrs ds s m).length ≤ m := by
  unfold yrs
  exact Nat.le_trans (List.length_filter_le _ _) (by simp)
theorem yrs_all {ds : List De} (hy : ∀ d ∈ ds, -1000 ≤ d.year ∧ d.year ≤ 1000) (s : ByteArray) : yrs ds s 2001 = setZ (yearsF ds s) := by
  refine incZ_ext ?_ (setZ_inc _) fun z => ?_
  · unfold yrs IncZ
    refine List.Pairwise.filter _ ?_
    rw [List.pairwise_map]
    exact List.pairwise_lt_range.imp fun h => by omega
  · rw [mem_setZ, mem_yearsF]
    unfold yrs
    rw [List.mem_filter, List.mem_map]
    unfold yB
    rw [List.any_eq_true]
    constructor
    · rintro ⟨_, d, hd, h⟩
      rw [Bool.and_eq_true] at h
      exact ⟨d, hd, h.2, of_decide_eq_true h.1⟩
    · rintro ⟨d, hd, h1, h2⟩
      have := hy d hd
      refine ⟨⟨(z + 1000).toNat, ?_, ?_⟩, d, hd, ?_⟩
      · rw [List.mem_range]; omega
      · omega
      · rw [h1, decide_eq_true h2]; rfl
/-- A circle, as the reference finds it. -/
theorem cir_filter {ds : List De} {s : ByteArray} (hs : s ∈ allF ds) : (allF ds).filter (fun t => memB (cirF ds s) t) = cirF ds s := by
  refine incS_ext (incS_filter (setL_inc _) _) (cir_inc ds s) fun t => ?_
  rw [List.mem_filter, memB_iff]
  exact ⟨fun q => q.2, fun q => ⟨((cir_mem hs).1 q).all hs, q⟩⟩
def cirK (ds : List De) (s : ByteArray) (k : Nat) : List ByteArray := ((allF ds).take k).filter fun t => memB (cirF ds s) t
theorem cirK_succ {ds : List De} {s t : ByteArray} {k : Nat} (h : (allF ds)[k]? = some t) : cirK ds s (k + 1) = cirK ds s k ++ (if memB (cirF ds s) t then [t] else []) := by
  unfold cirK
  rw [List.take_add_one, h, List.filter_append]
  congr 1
  show [t].filter _ = _
  cases hq : memB (cirF ds s) t <;> simp [hq]
theorem cirK_all {ds : List De} {s : ByteArray} (hs : s ∈ allF ds) {k : Nat} (h : (allF ds).length ≤ k) : cirK ds s k = cirF ds s := by
  unfold cirK
  rw [List.take_of_length_le h, cir_filter hs]
theorem cirK_length (ds : List De) (s : ByteArray) (k : Nat) : (cirK ds s k).length ≤ k := by
  unfold cirK
  exact Nat.le_trans (List.length_filter_le _ _) (by rw [List.length_take]; omega)
/-- The seals that several sealers use. -/
def sealB (ds : List De) (s : ByteArray) : Bool := decide (s ≠ ByteArray.empty) && ds.any fun d => ds.any fun e => decide (d.sl = s) && (decide (e.sl = s) && decide (e.sealer ≠ d.sealer))
def sealsF (ds : List De) : List ByteArray := setI ((ds.map (·.sl)).filter (sealB ds))
theorem sealB_iff {ds : List De} {s : ByteArray} : sealB ds s = true ↔ s ≠ ByteArray.empty ∧ ∃ d ∈ ds, ∃ e ∈ ds, d.sl = s ∧ e.sl = s ∧ e.sealer ≠ d.sealer := by
  unfold sealB
  rw [Bool.and_eq_true, decide_eq_true_iff, List.any_eq_true]
  refine and_congr_right fun _ => ⟨?_, ?_⟩
  · rintro ⟨d, hd, h⟩
    obtain ⟨e, he, h⟩ := List.any_eq_true.1 h
    simp only [Bool.and_eq_true, decide_eq_true_eq] at h
    exact ⟨d, hd, e, he, h.1, h.2.1, h.2.2⟩
  · rintro ⟨d, hd, e, he, h1, h2, h3⟩
    refine ⟨d, hd, List.any_eq_true.2 ⟨e, he, ?_⟩⟩
    simp only [Bool.and_eq_true, decide_eq_true_eq]
    exact ⟨h1, h2, h3⟩
theorem mem_sealsF {ds : List De} {s : ByteArray} : s ∈ sealsF ds ↔ sealB ds s = true := by
  unfold sealsF
  rw [mem_setI, List.mem_filter]
  refine ⟨fun q => q.2, fun q => ⟨?_, q⟩⟩
  obtain ⟨_, d, hd, _, _, h, _⟩ := sealB_iff.1 q
  exact List.mem_map.2 ⟨d, hd, h⟩
theorem sealsF_inc (ds : List De) : IncS (sealsF ds) := setI_inc _
end
end Go.Proofs.YtdmcopjbckelmaaGreatDoor
