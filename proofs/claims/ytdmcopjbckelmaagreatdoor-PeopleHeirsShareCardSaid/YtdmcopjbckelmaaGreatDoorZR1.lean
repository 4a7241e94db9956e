/- Plain: the reference's way to the smallest bounds of a network agrees with the program's. No condition. -/
import Derived.Test.YtdmcopjbckelmaaGreatDoorZD
import Derived.Test.YtdmcopjbckelmaaGreatDoorZF
namespace Go.Proofs.YtdmcopjbckelmaaGreatDoor
open Go Go.RowKit

/-- The reference's number of a year. -/
def rs (x : Nat) : Nat := if x = 48 then 0 else x + 1
theorem sg_rs (x : Nat) : sg (rs x) = x := by unfold sg rs; split <;> split <;> omega
theorem rs_lt {p x : Nat} (h : In p x) : rs x < 1 + 2 * p := by unfold rs In at *; split <;> omega
theorem rs_inj {x y : Nat} (h : rs x = rs y) : x = y := by rw [← sg_rs x, ← sg_rs y, h]
def refB (b : Bo) : Bo := ⟨rs b.x, rs b.y, b.by_⟩
/-- The conditions of a person alone. -/
def bornL (i : Nat) : List Bo := [⟨2 * i, 48, 4000⟩, ⟨48, 2 * i, 4000⟩, ⟨2 * i, 2 * i + 1, 0⟩, ⟨2 * i + 1, 2 * i, 100⟩]
/-- All conditions of a network. -/
def netL (ps : List ByteArray) (fs : List Fa) : List Bo := (List.range ps.length).flatMap bornL ++ fs.flatMap (boundsF ps)
def refL (ps : List ByteArray) (fs : List Fa) : List Bo := (netL ps fs).map refB
/-- Nothing known. -/
def M0 (n : Nat) : Mat := fun i k => if i < n ∧ k < n then (if i = k then 0 else 1099511627776) else 0
def minM (M : Mat) (b : Bo) : Mat := fun i k => if i = b.x ∧ k = b.y ∧ b.by_ < M i k then b.by_ else M i k
def minL (M : Mat) : List Bo → Mat
  | [] => M
  | b :: l => minL (minM M b) l
theorem minL_append (M : Mat) (l m : List Bo) : minL M (l ++ m) = minL (minL M l) m := by
  induction l generalizing M with
  | nil => rfl
  | cons b l ih => exact ih _
theorem minM_sol {n : Nat} {M : Mat} {b : Bo} (hx : b.x < n) (hy : b.y < n) (t : Nat → Int) : SolM n (minM M b) t ↔ SolM n M t ∧ t b.x - t b.y ≤ b.by_ := by
  constructor
  · intro h
    refine ⟨fun i k hi hk => ?_, ?_⟩
    · have := h i k hi hk
      unfold minM at this
      split at this
      · next q => omega
      · exact this
    · have := h b.x b.y hx hy
      unfold minM at this
      split at this
      · exact this
      · next q =>
        have : ¬ b.by_ < M b.x b.y := fun e => q ⟨rfl, rfl, e⟩
        omega
  · rintro ⟨h, hb⟩ i k hi hk
    have := h i k hi hk
    unfold minM
    split
    · next q => rw [q.1, q.2.1]; exact hb
    · exact this
theorem minL_sol {n : Nat} {l : List Bo} (t : Nat → Int) : ∀ {M : Mat}, (∀ b ∈ l, b.x < n ∧ b.y < n) → (SolM n (minL M l) t ↔ SolM n M t ∧ Sat t l) := by
  induction l with
  | nil => intro M _; exact ⟨fun h => ⟨h, by simp [Sat]⟩, fun h => h.1⟩
  | cons b l ih =>
    intro M h
    obtain ⟨hx, hy⟩ := h b (by simp)
    have := ih (M := minM M b) (fun q hq => h q (by simp [hq]))
    show SolM n (minL (minM M b) l) t ↔ _
    rw [this, minM_sol hx hy]
    simp only [Sat, List.mem_cons, forall_eq_or_imp]
    exact and_assoc
theorem minL_diag {l : List Bo} : ∀ {M : Mat} {i : Nat}, (∀ b ∈ l, b.x ≠ b.y) → minL M l i i = M i i := by
  induction l with
  | nil => intro M i _; rfl
  | cons b l ih =>
    intro M i h
    have := ih (M := minM M b) (i := i) (fun q hq => h q (by simp [hq]))
    show minL (minM M b) l i i = M i i
    rw [this]
    unfold minM
    rw [if_neg (fun q => h b (by simp) (q.1.symm.trans q.2.1))]
/-- How far an entry may lie. -/
theorem minL_bd {l : List Bo} : ∀ {M : Mat} {i k : Nat}, (∀ b ∈ l, -4000 ≤ b.by_) → -4000 ≤ M i k → M i k ≤ 1099511627776 → -4000 ≤ minL M l i k ∧ minL M l i k ≤ 1099511627776 := by
  induction l with
  | nil => intro M i k _ h1 h2; exact ⟨h1, h2⟩
  | cons b l ih =>
    intro M i k h h1 h2
    have hb := h b (by simp)
    refine ih (M := minM M b) (fun q hq => h q (by simp [hq])) ?_ ?_ <;> unfold minM <;> split <;> omega
def solvedF (ps : List ByteArray) (fs : List Fa) : Option Mat := fwN (1 + 2 * ps.length) (minL (M0 (1 + 2 * ps.length)) (refL ps fs)) (1 + 2 * ps.length)
theorem bornL_in {p : Nat} (hp : p ≤ 24) : ∀ b ∈ (List.range p).flatMap bornL, (In p b.x ∧ In p b.y) ∧ b.x ≠ b.y ∧ 0 ≤ b.by_ ∧ b.by_ ≤ 4000 := by
  intro b hb
  obtain ⟨i, hi, hb⟩ := List.mem_flatMap.1 hb
  rw [List.mem_range] at hi
  unfold bornL at hb
  simp only [List.mem_cons, List.not_mem_nil, or_false] at hb
  rcases hb with rfl | rfl | rfl | rfl
  · exact ⟨⟨.inl (show 2 * i < 2 * p by omega), .inr rfl⟩, show 2 * i ≠ 48 by omega, show (0 : Int) ≤ 4000 by omega, show (4000 : Int) ≤ 4000 by omega⟩
  · exact ⟨⟨.inr rfl, .inl (show 2 * i < 2 * p by omega)⟩, show 48 ≠ 2 * i by omega, show (0 : Int) ≤ 4000 by omega, show (4000 : Int) ≤ 4000 by omega⟩
  · exact ⟨⟨.inl (show 2 * i < 2 * p by omega), .inl (show 2 * i + 1 < 2 * p by omega)⟩, show 2 * i ≠ 2 * i + 1 by omega, show (0 : Int) ≤ 0 by omega, show (0 : Int) ≤ 4000 by omega⟩
  · exact ⟨⟨.inl (show 2 * i + 1 < 2 * p by omega), .inl (show 2 * i < 2 * p by omega)⟩, show 2 * i + 1 ≠ 2 * i by omega, show (0 : Int) ≤ 100 by omega, show (100 : Int) ≤ 4000 by omega⟩
theorem boundsF_ne {ps : List ByteArray} {f : Fa} (hp : ps.length ≤ 24) (h : aboutB ps f = true) : ∀ b ∈ boundsF ps f, b.x ≠ b.y := by
  obtain ⟨h1, h2, h3, h4⟩ := aboutB_iff.1 h
  have ha := posF_lt h2
  have key : f.kind ≤ 3 → posF ps f.a ≠ posF ps f.b := fun q e => (h3 q).1 (posF_inj h2 (h3 q).2.1 e).symm
  intro b hb
  unfold boundsF at hb
  by_cases e : f.kind ≤ 3
  · have := key e
    have hbl := posF_lt (h3 e).2.1
    repeat' split at hb
    all_goals
      simp only [List.mem_cons, List.not_mem_nil, or_false] at hb
      first
        | (rcases hb with rfl | rfl | rfl <;> (simp only; omega))
        | (rcases hb with rfl | rfl <;> (simp only; omega))
        | (subst hb; simp only; omega)
  · rw [if_neg (by omega), if_neg (by omega), if_neg (by omega)] at hb
    repeat' split at hb
    all_goals
      simp only [List.mem_cons, List.not_mem_nil, or_false] at hb
      first
        | (rcases hb with rfl | rfl <;> (simp only; omega))
        | (subst hb; simp only; omega)
theorem netL_in {ps : List ByteArray} {fs : List Fa} (hp : ps.length ≤ 24) (h : AllAbout ps fs) : ∀ b ∈ netL ps fs, (In ps.length b.x ∧ In ps.length b.y) ∧ b.x ≠ b.y ∧ -4000 ≤ b.by_ := by
  intro b hb
  rcases List.mem_append.1 hb with q | q
  · obtain ⟨h1, h2, h3, _⟩ := bornL_in hp b q
    exact ⟨h1, h2, by omega⟩
  · obtain ⟨f, hf, hb⟩ := List.mem_flatMap.1 q
    exact ⟨boundsF_in (h f hf) b hb, boundsF_ne hp (h f hf) b hb, by have := (boundsF_small (h f hf) b hb).1; omega⟩
theorem refL_in {ps : List ByteArray} {fs : List Fa} (hp : ps.length ≤ 24) (h : AllAbout ps fs) : ∀ b ∈ refL ps fs, (b.x < 1 + 2 * ps.length ∧ b.y < 1 + 2 * ps.length) ∧ b.x ≠ b.y ∧ -4000 ≤ b.by_ := by
  intro b hb
  obtain ⟨a, ha, rfl⟩ := List.mem_map.1 hb
  obtain ⟨⟨h1, h2⟩, h3, h4⟩ := netL_in hp h a ha
  exact ⟨⟨rs_lt h1, rs_lt h2⟩, fun e => h3 (rs_inj e), h4⟩
theorem sat_ref {t : Nat → Int} {l : List Bo} : Sat (fun i => t (sg i)) (l.map refB) ↔ Sat t l := by
  unfold Sat
  constructor
  · intro h b hb
    have := h (refB b) (List.mem_map.2 ⟨b, hb, rfl⟩)
    simp only [refB, sg_rs] at this
    exact this
  · intro h b hb
    obtain ⟨a, ha, rfl⟩ := List.mem_map.1 hb
    simp only [refB, sg_rs]
    exact h a ha
theorem born_sat {p : Nat} {t : Nat → Int} : Sat t ((List.range p).flatMap bornL) ↔ ∀ m, m < p → t (2 * m) - t 48 ≤ 4000 ∧ t 48 - t (2 * m) ≤ 4000 ∧ t (2 * m) - t (2 * m + 1) ≤ 0 ∧ t (2 * m + 1) - t (2 * m) ≤ 100 := by
  constructor
  · intro h m hm
    have key : ∀ b ∈ bornL m, t b.x - t b.y ≤ b.by_ := fun b hb => h b (List.mem_flatMap.2 ⟨m, List.mem_range.2 hm, hb⟩)
    exact ⟨key ⟨2 * m, 48, 4000⟩ (by simp [bornL]), key ⟨48, 2 * m, 4000⟩ (by simp [bornL]), key ⟨2 * m, 2 * m + 1, 0⟩ (by simp [bornL]), key ⟨2 * m + 1, 2 * m, 100⟩ (by simp [bornL])⟩
  · intro h b hb
    obtain ⟨m, hm, hb⟩ := List.mem_flatMap.1 hb
    obtain ⟨h1, h2, h3, h4⟩ := h m (List.mem_range.1 hm)
    unfold bornL at hb
    simp only [List.mem_cons, List.not_mem_nil, or_false] at hb
    rcases hb with rfl | rfl | rfl | rfl
    · exact h1
    · exact h2
    · exact h3
    · exact h4
theorem m0_sol {p : Nat} {t : Nat → Int} (h : ∀ m, m < p → t (2 * m) - t 48 ≤ 4000 ∧ t 48 - t (2 * m) ≤ 4000 ∧ t (2 * m) - t (2 * m + 1) ≤ 0 ∧ t (2 * m + 1) - t (2 * m) ≤ 100) : SolM (1 + 2 * p) (M0 (1 + 2 * p)) (fun i => t (sg i)) := by
  have far : ∀ x, In p x → t x - t 48 ≤ 4100 ∧ t 48 - t x ≤ 4100 := by
    intro x hx
    rcases hx with hx | rfl
    · have := h (x / 2) (by omega)
      rcases Nat.mod_two_eq_zero_or_one x with e | e
      · rw [show 2 * (x / 2) = x by omega] at this; omega
      · rw [show 2 * (x / 2) + 1 = x by omega] at this; omega
    · omega
  intro i k hi hk
  have a := far _ (sg_in hi)
  have b := far _ (sg_in hk)
  unfold M0
  rw [if_pos ⟨hi, hk⟩]
  by_cases e : i = k
  · subst e; rw [if_pos rfl]; simp only; omega
  · rw [if_neg e]; simp only; omega
theorem solved_sol {ps : List ByteArray} {fs : List Fa} (hp : ps.length ≤ 24) (h : AllAbout ps fs) (t : Nat → Int) : SolM (1 + 2 * ps.length) (minL (M0 (1 + 2 * ps.length)) (refL ps fs)) (fun i => t (sg i)) ↔ SolN ps fs t := by
  rw [minL_sol _ (fun b hb => (refL_in hp h b hb).1)]
  unfold refL SolN netL
  rw [sat_ref, sol_born hp]
  have hap : Sat t ((List.range ps.length).flatMap bornL ++ fs.flatMap (boundsF ps)) ↔ Sat t ((List.range ps.length).flatMap bornL) ∧ Sat t (fs.flatMap (boundsF ps)) := by
    unfold Sat
    simp only [List.mem_append]
    exact ⟨fun q => ⟨fun b hb => q b (.inl hb), fun b hb => q b (.inr hb)⟩, fun q b hb => hb.elim (q.1 b) (q.2 b)⟩
  rw [hap, born_sat]
  exact ⟨fun q => q.2, fun q => ⟨m0_sol q.1, q⟩⟩
theorem solved_diag {ps : List ByteArray} {fs : List Fa} (hp : ps.length ≤ 24) (h : AllAbout ps fs) {i : Nat} (hi : i < 1 + 2 * ps.length) : minL (M0 (1 + 2 * ps.length)) (refL ps fs) i i = 0 := by
  rw [minL_diag (fun b hb => (refL_in hp h b hb).2.1)]
  unfold M0
  rw [if_pos ⟨hi, hi⟩, if_pos rfl]
/-- Both ways find the same. -/
theorem solved_none {ps : List ByteArray} {fs : List Fa} (hp : ps.length ≤ 24) (h : AllAbout ps fs) : solvedF ps fs = none ↔ solveF ps fs = none := by
  constructor
  · intro e
    cases hs : solveF ps fs with
    | none => rfl
    | some D =>
      have g := solveF_good hp h hs
      have := (solveF_sol hp h hs _).1 (g.sol (In.org _))
      exact absurd ((solved_sol hp h _).2 this) (fwN_none (fun i hi => solved_diag hp h hi) (Nat.le_refl _) e _)
  · intro e
    cases hs : solvedF ps fs with
    | none => rfl
    | some M =>
      obtain ⟨g, s⟩ := fwN_some (fun i hi => solved_diag hp h hi) (Nat.le_refl _) hs
      have hS : SolM (1 + 2 * ps.length) M (fun j => M j 0) := fun i k hi hk => by
        have := g.cl k hk i 0 hi (by omega)
        show M i 0 - M k 0 ≤ M i k
        omega
      have hS2 : SolM (1 + 2 * ps.length) (minL (M0 (1 + 2 * ps.length)) (refL ps fs)) (fun i => (fun x => M (rs x) 0) (sg i)) := by
        refine (s _).1 fun i k hi hk => ?_
        have e1 : ∀ i, i < 1 + 2 * ps.length → rs (sg i) = i := by
          intro i hi
          unfold rs sg
          split <;> split <;> omega
        simp only [e1 i hi, e1 k hk]
        exact hS i k hi hk
      exact absurd ((solved_sol hp h (fun x => M (rs x) 0)).1 hS2) (solveF_no hp h e _)
theorem solved_isSome {ps : List ByteArray} {fs : List Fa} (hp : ps.length ≤ 24) (h : AllAbout ps fs) : (solvedF ps fs).isSome = (solveF ps fs).isSome := by
  have := solved_none hp h
  cases h1 : solvedF ps fs with
  | none => rw [this.1 h1]
  | some M =>
    cases h2 : solveF ps fs with
    | none => rw [this.2 h2] at h1; cases h1
    | some D => rfl
theorem solved_eq {ps : List ByteArray} {fs : List Fa} {D M : Mat} (hp : ps.length ≤ 24) (h : AllAbout ps fs) (e : solveF ps fs = some D) (e' : solvedF ps fs = some M) {i k : Nat} (hi : i < 1 + 2 * ps.length) (hk : k < 1 + 2 * ps.length) : D (sg i) (sg k) = M i k := by
  obtain ⟨g, s⟩ := fwN_some (fun i hi => solved_diag hp h hi) (Nat.le_refl _) e'
  refine same_D (solveF_good hp h e) g (fun t => ?_) hi hk
  rw [solveF_sol hp h e t, s, solved_sol hp h t]
end Go.Proofs.YtdmcopjbckelmaaGreatDoor
