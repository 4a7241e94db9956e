/- Plain: years of births and deaths as a solution of a network. No condition. -/
import Derived.Test.YtdmcopjbckelmaaDoorZD
import Derived.Test.YtdmcopjbckelmaaDoorZF
namespace Go.Proofs.YtdmcopjbckelmaaDoor
open Go Go.RowKit

/-- The years of births and deaths, by the program's numbers. -/
def yrT (bs ds : List Int) (i : Nat) : Int := if i = 48 then 0 else if i % 2 = 0 then bs.getD (i / 2) 0 else ds.getD (i / 2) 0
theorem yrT_o (bs ds : List Int) : yrT bs ds 48 = 0 := rfl
theorem yrT_b (bs ds : List Int) {m : Nat} (h : m < 24) : yrT bs ds (2 * m) = bs.getD m 0 := by
  unfold yrT
  rw [if_neg (by omega), if_pos (by omega), show 2 * m / 2 = m by omega]
theorem yrT_d (bs ds : List Int) {m : Nat} (_h : m < 24) : yrT bs ds (2 * m + 1) = ds.getD m 0 := by
  unfold yrT
  rw [if_neg (by omega), if_neg (by omega), show (2 * m + 1) / 2 = m by omega]
/-- Are the years of a person in range? -/
def yOk (bs ds : List Int) (i : Nat) : Bool := decide (-4000 ≤ bs.getD i 0 ∧ bs.getD i 0 ≤ 4000 ∧ bs.getD i 0 ≤ ds.getD i 0 ∧ ds.getD i 0 ≤ bs.getD i 0 + 100)
def satB (t : Nat → Int) (l : List Bo) : Bool := l.all fun b => decide (t b.x - t b.y ≤ b.by_)
theorem satB_iff {t : Nat → Int} {l : List Bo} : satB t l = true ↔ Sat t l := by
  unfold satB Sat
  rw [List.all_eq_true]
  simp only [decide_eq_true_eq]
/-- Do the years satisfy the condition of a fact? -/
def meetsB (ps : List ByteArray) (bs ds : List Int) (f : Fa) : Bool := satB (yrT bs ds) (boundsF ps f)
/-- Are the years a solution? -/
def solvesB (ps : List ByteArray) (fs : List Fa) (bs ds : List Int) : Bool :=
  decide (bs.length = ps.length ∧ ds.length = ps.length) && ((List.range ps.length).all (yOk bs ds) && fs.all (meetsB ps bs ds))
theorem all_range {n : Nat} {q : Nat → Bool} : (List.range n).all q = true ↔ ∀ i, i < n → q i = true := by
  rw [List.all_eq_true]
  simp only [List.mem_range]
theorem sat_all {ps : List ByteArray} {fs : List Fa} {t : Nat → Int} : Sat t (fs.flatMap (boundsF ps)) ↔ ∀ f ∈ fs, Sat t (boundsF ps f) := by
  constructor
  · intro h f hf b hb
    exact h b (List.mem_flatMap.2 ⟨f, hf, hb⟩)
  · intro h b hb
    obtain ⟨f, hf, hb⟩ := List.mem_flatMap.1 hb
    exact h f hf b hb
theorem solvesB_iff {ps : List ByteArray} {fs : List Fa} {bs ds : List Int} (hp : ps.length ≤ 24) : solvesB ps fs bs ds = true ↔ (bs.length = ps.length ∧ ds.length = ps.length) ∧ SolN ps fs (yrT bs ds) := by
  unfold solvesB SolN
  rw [Bool.and_eq_true, Bool.and_eq_true, decide_eq_true_eq, all_range, List.all_eq_true, sol_born hp, sat_all]
  have hr : (∀ i, i < ps.length → yOk bs ds i = true) ↔ ∀ m, m < ps.length → yrT bs ds (2 * m) - yrT bs ds 48 ≤ 4000 ∧ yrT bs ds 48 - yrT bs ds (2 * m) ≤ 4000 ∧ yrT bs ds (2 * m) - yrT bs ds (2 * m + 1) ≤ 0 ∧ yrT bs ds (2 * m + 1) - yrT bs ds (2 * m) ≤ 100 := by
    constructor
    · intro h m hm
      have := h m hm
      unfold yOk at this
      rw [decide_eq_true_eq] at this
      rw [yrT_o, yrT_b _ _ (by omega), yrT_d _ _ (by omega)]
      omega
    · intro h m hm
      have := h m hm
      rw [yrT_o, yrT_b _ _ (by omega), yrT_d _ _ (by omega)] at this
      unfold yOk
      rw [decide_eq_true_eq]
      omega
  rw [hr]
  simp only [meetsB, satB_iff]
theorem sol_congr {p : Nat} {D : Mat} {t t' : Nat → Int} (he : ∀ j, In p j → t j = t' j) (h : Sol p D t) : Sol p D t' := fun i k hi hk => by
  rw [← he i hi, ← he k hk]
  exact h i k hi hk
theorem first_sol {p : Nat} {D : Mat} (g : Good p D) : Sol p D (fun j => -(D 48 j)) := fun i k hi hk => by
  have := g.tri 48 i k (In.org p) hi hk
  show -(D 48 i) - -(D 48 k) ≤ D i k
  omega
theorem last_sol {p : Nat} {D : Mat} (g : Good p D) : Sol p D (fun j => D j 48) := g.sol (In.org p)
def firstB (D : Mat) (n : Nat) : List Int := (List.range n).map fun i => -(D 48 (2 * i))
def firstD (D : Mat) (n : Nat) : List Int := (List.range n).map fun i => -(D 48 (2 * i + 1))
def lastB (D : Mat) (n : Nat) : List Int := (List.range n).map fun i => D (2 * i) 48
def lastD (D : Mat) (n : Nat) : List Int := (List.range n).map fun i => D (2 * i + 1) 48
theorem getD_map (q : Nat → Int) {n i : Nat} (h : i < n) : ((List.range n).map q).getD i 0 = q i := by
  rw [List.getD_eq_getElem?_getD, List.getElem?_map, List.getElem?_range h]
  rfl
theorem yr_of {p : Nat} (hp : p ≤ 24) {t : Nat → Int} {bs ds : List Int} (h0 : t 48 = 0) (hb : ∀ i, i < p → bs.getD i 0 = t (2 * i)) (hd : ∀ i, i < p → ds.getD i 0 = t (2 * i + 1)) : ∀ j, In p j → t j = yrT bs ds j := by
  intro j hj
  rcases hj with hj | rfl
  · obtain ⟨m, hm⟩ : ∃ m, j = 2 * m ∨ j = 2 * m + 1 := ⟨j / 2, by omega⟩
    rcases hm with rfl | rfl
    · rw [yrT_b _ _ (by omega), hb m (by omega)]
    · rw [yrT_d _ _ (by omega), hd m (by omega)]
  · rw [h0, yrT_o]
/-- All earliest years together, all latest ones together are solutions. -/
theorem first_solves {ps : List ByteArray} {fs : List Fa} {D : Mat} (hp : ps.length ≤ 24) (h : AllAbout ps fs) (e : solveF ps fs = some D) : solvesB ps fs (firstB D ps.length) (firstD D ps.length) = true := by
  have g := solveF_good hp h e
  refine (solvesB_iff hp).2 ⟨⟨by simp [firstB], by simp [firstD]⟩, (solveF_sol hp h e _).1 (sol_congr (yr_of hp ?_ ?_ ?_) (first_sol g))⟩
  · show -(D 48 48) = 0
    rw [g.diag 48 (by decide)]
    rfl
  · exact fun i hi => getD_map _ hi
  · exact fun i hi => getD_map _ hi
theorem last_solves {ps : List ByteArray} {fs : List Fa} {D : Mat} (hp : ps.length ≤ 24) (h : AllAbout ps fs) (e : solveF ps fs = some D) : solvesB ps fs (lastB D ps.length) (lastD D ps.length) = true := by
  have g := solveF_good hp h e
  refine (solvesB_iff hp).2 ⟨⟨by simp [lastB], by simp [lastD]⟩, (solveF_sol hp h e _).1 (sol_congr (yr_of hp ?_ ?_ ?_) (last_sol g))⟩
  · exact g.diag 48 (by decide)
  · exact fun i hi => getD_map _ hi
  · exact fun i hi => getD_map _ hi
/-- Every solution lies between them. -/
theorem between {ps : List ByteArray} {fs : List Fa} {bs ds : List Int} {D : Mat} (hp : ps.length ≤ 24) (h : AllAbout ps fs) (e : solveF ps fs = some D) (hs : solvesB ps fs bs ds = true) {i : Nat} (hi : i < ps.length) :
    -(D 48 (2 * i)) ≤ bs.getD i 0 ∧ bs.getD i 0 ≤ D (2 * i) 48 ∧ -(D 48 (2 * i + 1)) ≤ ds.getD i 0 ∧ ds.getD i 0 ≤ D (2 * i + 1) 48 := by
  have hS := (solveF_sol hp h e _).2 ((solvesB_iff hp).1 hs).2
  have i0 : In ps.length (2 * i) := .inl (by omega)
  have i1 : In ps.length (2 * i + 1) := .inl (by omega)
  have a := hS _ _ i0 (In.org _)
  have b := hS _ _ (In.org _) i0
  have c := hS _ _ i1 (In.org _)
  have d := hS _ _ (In.org _) i1
  rw [yrT_o, yrT_b _ _ (by omega)] at a b
  rw [yrT_o, yrT_d _ _ (by omega)] at c d
  omega
theorem not_solves {ps : List ByteArray} {fs : List Fa} (bs ds : List Int) (hp : ps.length ≤ 24) (h : AllAbout ps fs) (e : solveF ps fs = none) : solvesB ps fs bs ds = false := by
  cases hb : solvesB ps fs bs ds with
  | false => rfl
  | true => exact absurd ((solvesB_iff hp).1 hb).2 (solveF_no hp h e _)
/-- A further fact makes no span wider. -/
theorem narrow {ps : List ByteArray} {fs : List Fa} {x : Fa} {D E : Mat} (hp : ps.length ≤ 24) (h : AllAbout ps fs) (hx : aboutB ps x = true) (e : solveF ps fs = some D) (e' : solveF ps (fs ++ [x]) = some E) {i k : Nat} (hi : In ps.length i) (hk : In ps.length k) : E i k ≤ D i k := by
  have ha : AllAbout ps (fs ++ [x]) := fun f hf => by
    rcases List.mem_append.1 hf with q | q
    · exact h f q
    · rw [List.mem_singleton.1 q]; exact hx
  refine Good.le_of (solveF_good hp ha e') (fun t ht => ?_) hi hk
  have hs := (solveF_sol hp ha e' t).1 ht
  refine (solveF_sol hp h e t).2 ⟨hs.1, fun b hb => hs.2 b ?_⟩
  rw [List.flatMap_append]
  exact List.mem_append_left _ hb
theorem some_of_snoc {ps : List ByteArray} {fs : List Fa} {x : Fa} {E : Mat} (e : solveF ps (fs ++ [x]) = some E) : ∃ D, solveF ps fs = some D := by
  cases h : solveF ps fs with
  | some D => exact ⟨D, rfl⟩
  | none => rw [solveF_none_append h] at e; cases e
/-- What must hold, holds in each solution. -/
theorem must_sat {p : Nat} {D : Mat} {ps : List ByteArray} {f : Fa} {t : Nat → Int} (hp : ps.length = p) (hf : aboutB ps f = true) (hm : mustB D ps f = true) (hS : Sol p D t) : Sat t (boundsF ps f) := by
  intro b hb
  unfold mustB at hm
  rw [Bool.not_eq_true', List.any_eq_false] at hm
  have h1 := hm b hb
  unfold overB at h1
  rw [decide_eq_true_eq] at h1
  obtain ⟨hx, hy⟩ := boundsF_in hf b hb
  rw [hp] at hx hy
  have := hS _ _ hx hy
  omega
/-- What holds in each solution, must hold. -/
theorem sat_must {D : Mat} {ps : List ByteArray} {f : Fa} (g : Good ps.length D) (hf : aboutB ps f = true) (h : ∀ t, Sol ps.length D t → Sat t (boundsF ps f)) : mustB D ps f = true := by
  unfold mustB
  rw [Bool.not_eq_true', List.any_eq_false]
  intro b hb
  unfold overB
  rw [decide_eq_true_eq]
  obtain ⟨hx, hy⟩ := boundsF_in hf b hb
  have h1 : D b.x b.y - D b.y b.y ≤ b.by_ := h _ (g.sol hy) b hb
  have h2 := g.diag b.y (hy.lt g.many)
  omega
theorem solveF_snoc_some {ps : List ByteArray} {fs : List Fa} {D : Mat} (f : Fa) (e : solveF ps fs = some D) : solveF ps (fs ++ [f]) = amL D (boundsF ps f) := by
  rw [solveF_snoc, e]
  rfl
/-- What must hold, may hold. -/
theorem must_may {ps : List ByteArray} {fs : List Fa} {x : Fa} {D : Mat} (hp : ps.length ≤ 24) (h : AllAbout ps fs) (hx : aboutB ps x = true) (e : solveF ps fs = some D) (hm : mustB D ps x = true) : (solveF ps (fs ++ [x])).isSome = true := by
  have g := solveF_good hp h e
  cases hn : solveF ps (fs ++ [x]) with
  | some E => rfl
  | none =>
    rw [solveF_snoc_some x e] at hn
    have hS := g.sol (In.org ps.length)
    exact absurd (must_sat rfl hx hm hS) (amL_none g (boundsF_in hx) hn _ hS)
/-- What may not hold, holds in no solution. -/
theorem may_sat {ps : List ByteArray} {fs : List Fa} {x : Fa} {D : Mat} {t : Nat → Int} (hp : ps.length ≤ 24) (h : AllAbout ps fs) (hx : aboutB ps x = true) (e : solveF ps fs = some D) (hn : solveF ps (fs ++ [x]) = none) (hS : Sol ps.length D t) : ¬ Sat t (boundsF ps x) := by
  rw [solveF_snoc_some x e] at hn
  exact amL_none (solveF_good hp h e) (boundsF_in hx) hn t hS
/-- Each fact of a network must hold. -/
theorem must_own {ps : List ByteArray} {fs : List Fa} {D : Mat} (hp : ps.length ≤ 24) (h : AllAbout ps fs) (e : solveF ps fs = some D) {f : Fa} (hf : f ∈ fs) : mustB D ps f = true :=
  sat_must (solveF_good hp h e) (h f hf) fun t ht => sat_all.1 ((solveF_sol hp h e t).1 ht).2 f hf
/-- If A may not be the elder one, B must be. -/
theorem must_turned {ps : List ByteArray} {fs : List Fa} {a b : ByteArray} {D : Mat} (e : solveF ps fs = some D) (hn : solveF ps (fs ++ [⟨3, a, b, 0⟩]) = none) : mustB D ps ⟨3, b, a, 0⟩ = true := by
  have h1 : amL D [⟨2 * posF ps a, 2 * posF ps b, 0⟩] = none := by
    rw [solveF_snoc_some _ e] at hn
    exact hn
  unfold mustB
  rw [Bool.not_eq_true', List.any_eq_false]
  intro q hq
  rw [List.mem_singleton.1 (show q ∈ [(⟨2 * posF ps b, 2 * posF ps a, 0⟩ : Bo)] from hq)]
  unfold overB
  rw [decide_eq_true_eq]
  simp only
  cases hm : am D (2 * posF ps a) (2 * posF ps b) 0 with
  | some E => simp [amL, hm] at h1
  | none =>
    unfold am at hm
    split at hm
    · cases hm
    · split at hm
      · omega
      · cases hm
end Go.Proofs.YtdmcopjbckelmaaDoor
