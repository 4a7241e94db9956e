/- Plain: the chapter's example: its years, its contradiction. No condition. Plain: the chapter's examples, reckoned. No condition. Walks: the law's own examples. No condition. works: the walk: it returns true. Condition: the package variable zero of metro holds what the program's text lays in it. -/
import Derived.Test.YtdmcopjbckelmaaGreatDoorZF
import Derived.Test.YtdmcopjbckelmaaGreatDoorZD
import Derived.Test.YtdmcopjbckelmaaGreatDoorZG
import Derived.Test.YtdmcopjbckelmaaGreatDoorZE
namespace Go.Proofs.YtdmcopjbckelmaaGreatDoor
section
open Go Go.RowKit

def nAda : ByteArray := ⟨#[97, 100, 97]⟩
def nBel : ByteArray := ⟨#[98, 101, 108]⟩
def nCur : ByteArray := ⟨#[99, 117, 114]⟩
def nDan : ByteArray := ⟨#[100, 97, 110]⟩
def nEli : ByteArray := ⟨#[101, 108, 105]⟩
def exP : List ByteArray := [nAda, nBel, nCur, nDan]
def exF : List Fa := [⟨1, nAda, nBel, 0⟩, ⟨1, nCur, nBel, 0⟩, ⟨5, nAda, ⟨#[]⟩, 50⟩, ⟨7, nBel, ⟨#[]⟩, 60⟩, ⟨5, nCur, ⟨#[]⟩, 75⟩, ⟨3, nCur, nAda, 0⟩]
def exBorn : Fa := ⟨4, nBel, ⟨#[]⟩, 45⟩
def exG : List Fa := exF ++ [exBorn]
def exActs : Fa := ⟨5, nBel, ⟨#[]⟩, 70⟩
def exAlive : Fa := ⟨6, nAda, ⟨#[]⟩, 45⟩
theorem ex_check : checkF exP exF = 0 := by kernel_rfl
theorem ex_checkG : checkF exP exG = 0 := by kernel_rfl
theorem ex_about : AllAbout exP exG := by
  intro f hf
  have : exG.all (aboutB exP) = true := by kernel_rfl
  exact List.all_eq_true.1 this f hf
theorem ex_aboutF : AllAbout exP exF := fun f hf => ex_about f (List.mem_append_left _ hf)
theorem ex_acts : aboutB exP exActs = true := by kernel_rfl
theorem ex_alive : aboutB exP exAlive = true := by kernel_rfl
/-- The conditions of the people alone. -/
def ExB (t : Nat → Int) : Prop :=
  (t 0 - t 48 ≤ 4000 ∧ t 48 - t 0 ≤ 4000 ∧ t 0 - t 1 ≤ 0 ∧ t 1 - t 0 ≤ 100) ∧ (t 2 - t 48 ≤ 4000 ∧ t 48 - t 2 ≤ 4000 ∧ t 2 - t 3 ≤ 0 ∧ t 3 - t 2 ≤ 100) ∧
  (t 4 - t 48 ≤ 4000 ∧ t 48 - t 4 ≤ 4000 ∧ t 4 - t 5 ≤ 0 ∧ t 5 - t 4 ≤ 100) ∧ (t 6 - t 48 ≤ 4000 ∧ t 48 - t 6 ≤ 4000 ∧ t 6 - t 7 ≤ 0 ∧ t 7 - t 6 ≤ 100)
theorem ex_born (t : Nat → Int) : Sol exP.length (bornE exP.length 0 0) t ↔ ExB t := by
  rw [sol_born (show exP.length ≤ 24 by decide)]
  constructor
  · intro h
    exact ⟨h 0 (by decide), h 1 (by decide), h 2 (by decide), h 3 (by decide)⟩
  · rintro ⟨h0, h1, h2, h3⟩ m hm
    have : m < 4 := hm
    rcases (show m = 0 ∨ m = 1 ∨ m = 2 ∨ m = 3 by omega) with rfl | rfl | rfl | rfl
    · exact h0
    · exact h1
    · exact h2
    · exact h3
theorem pos0 : posF exP nAda = 0 := by kernel_rfl
theorem pos1 : posF exP nBel = 1 := by kernel_rfl
theorem pos2 : posF exP nCur = 2 := by kernel_rfl
theorem exb0 : boundsF exP ⟨1, nAda, nBel, 0⟩ = [⟨2, 0, -12⟩, ⟨0, 2, 80⟩, ⟨0, 3, 1⟩] := by kernel_rfl
theorem exb1 : boundsF exP ⟨1, nCur, nBel, 0⟩ = [⟨2, 4, -12⟩, ⟨4, 2, 80⟩, ⟨4, 3, 1⟩] := by kernel_rfl
theorem exb2 : boundsF exP ⟨5, nAda, ⟨#[]⟩, 50⟩ = [⟨0, 48, 40⟩, ⟨48, 1, -50⟩] := by kernel_rfl
theorem exb3 : boundsF exP ⟨7, nBel, ⟨#[]⟩, 60⟩ = [⟨3, 48, 60⟩] := by kernel_rfl
theorem exb4 : boundsF exP ⟨5, nCur, ⟨#[]⟩, 75⟩ = [⟨4, 48, 65⟩, ⟨48, 5, -75⟩] := by kernel_rfl
theorem exb5 : boundsF exP ⟨3, nCur, nAda, 0⟩ = [⟨4, 0, 0⟩] := by kernel_rfl
theorem exb6 : boundsF exP exBorn = [⟨2, 48, 45⟩, ⟨48, 2, -45⟩] := by kernel_rfl
theorem exb7 : boundsF exP exActs = [⟨2, 48, 60⟩, ⟨48, 3, -70⟩] := by kernel_rfl
theorem exb8 : boundsF exP exAlive = [⟨0, 48, 45⟩, ⟨48, 1, -45⟩] := by kernel_rfl
/-- The conditions of each fact. -/
def ExC (t : Nat → Int) : Nat → Prop
  | 0 => t 2 - t 0 ≤ -12 ∧ t 0 - t 2 ≤ 80 ∧ t 0 - t 3 ≤ 1
  | 1 => t 2 - t 4 ≤ -12 ∧ t 4 - t 2 ≤ 80 ∧ t 4 - t 3 ≤ 1
  | 2 => t 0 - t 48 ≤ 40 ∧ t 48 - t 1 ≤ -50
  | 3 => t 3 - t 48 ≤ 60
  | 4 => t 4 - t 48 ≤ 65 ∧ t 48 - t 5 ≤ -75
  | 5 => t 4 - t 0 ≤ 0
  | _ => t 2 - t 48 ≤ 45 ∧ t 48 - t 2 ≤ -45
theorem sat_cons (t : Nat → Int) (x y : Nat) (b : Int) (l : List Bo) : Sat t (⟨x, y, b⟩ :: l) ↔ t x - t y ≤ b ∧ Sat t l := by
  unfold Sat
  simp
theorem sat_nil (t : Nat → Int) : Sat t [] := fun b hb => by cases hb
theorem sat_append (t : Nat → Int) (l m : List Bo) : Sat t (l ++ m) ↔ Sat t l ∧ Sat t m := by
  unfold Sat
  constructor
  · intro h; exact ⟨fun b hb => h b (List.mem_append_left _ hb), fun b hb => h b (List.mem_append_right _ hb)⟩
  · rintro ⟨h, k⟩ b hb
    rcases List.mem_append.1 hb with q | q
    · exact h b q
    · exact k b q
theorem ex_at (t : Nat → Int) (j : Nat) (hj : j < 7) : Sat t (boundsF exP (exG.getD j noFa)) ↔ ExC t j := by
  rcases (show j = 0 ∨ j = 1 ∨ j = 2 ∨ j = 3 ∨ j = 4 ∨ j = 5 ∨ j = 6 by omega) with rfl | rfl | rfl | rfl | rfl | rfl | rfl
  · show Sat t (boundsF exP ⟨1, nAda, nBel, 0⟩) ↔ _; rw [exb0]; simp only [sat_cons, ExC, iff_true_intro (sat_nil t), and_true]
  · show Sat t (boundsF exP ⟨1, nCur, nBel, 0⟩) ↔ _; rw [exb1]; simp only [sat_cons, ExC, iff_true_intro (sat_nil t), and_true]
  · show Sat t (boundsF exP ⟨5, nAda, ⟨#[]⟩, 50⟩) ↔ _; rw [exb2]; simp only [sat_cons, ExC, iff_true_intro (sat_nil t), and_true]
  · show Sat t (boundsF exP ⟨7, nBel, ⟨#[]⟩, 60⟩) ↔ _; rw [exb3]; simp only [sat_cons, ExC, iff_true_intro (sat_nil t), and_true]
  · show Sat t (boundsF exP ⟨5, nCur, ⟨#[]⟩, 75⟩) ↔ _; rw [exb4]; simp only [sat_cons, ExC, iff_true_intro (sat_nil t), and_true]
  · show Sat t (boundsF exP ⟨3, nCur, nAda, 0⟩) ↔ _; rw [exb5]; simp only [sat_cons, ExC, iff_true_intro (sat_nil t), and_true]
  · show Sat t (boundsF exP exBorn) ↔ _; rw [exb6]; simp only [sat_cons, ExC, iff_true_intro (sat_nil t), and_true]
theorem ex_selF : selF exG [0, 1, 2, 3, 4, 5] = exF := by kernel_rfl
theorem ex_get (j : Nat) (hj : j < 7) : exG.getD j noFa ∈ exG := by
  have h : j < exG.length := hj
  rw [List.getD_eq_getElem?_getD, List.getElem?_eq_getElem h]
  exact List.getElem_mem h
theorem ex_sel_about {l : List Nat} (hl : ∀ j ∈ l, j < 7) : AllAbout exP (selF exG l) := by
  intro f hf
  obtain ⟨j, hj, rfl⟩ := List.mem_map.1 hf
  exact ex_about _ (ex_get j (hl j hj))
theorem ex_sol (t : Nat → Int) {l : List Nat} (hl : ∀ j ∈ l, j < 7) : SolN exP (selF exG l) t ↔ ExB t ∧ ∀ j ∈ l, ExC t j := by
  unfold SolN
  rw [ex_born]
  refine and_congr_right fun _ => ?_
  unfold selF
  constructor
  · intro h j hj
    rw [← ex_at t j (hl j hj)]
    intro b hb
    exact h b (List.mem_flatMap.2 ⟨_, List.mem_map.2 ⟨j, hj, rfl⟩, hb⟩)
  · intro h b hb
    obtain ⟨f, hf, hb⟩ := List.mem_flatMap.1 hb
    obtain ⟨j, hj, rfl⟩ := List.mem_map.1 hf
    exact (ex_at t j (hl j hj)).2 (h j hj) b hb
theorem ex_some {l : List Nat} (hl : ∀ j ∈ l, j < 7) (t : Nat → Int) (h : ExB t ∧ ∀ j ∈ l, ExC t j) : badL exP exG l = false := by
  unfold badL
  cases hs : solveF exP (selF exG l) with
  | none => exact absurd ((ex_sol t hl).2 h) (solveF_no (by decide) (ex_sel_about hl) hs t)
  | some D => rfl
theorem ex_none {l : List Nat} (hl : ∀ j ∈ l, j < 7) (h : ∀ t, ExB t → (∀ j ∈ l, ExC t j) → False) : badL exP exG l = true := by
  unfold badL
  cases hs : solveF exP (selF exG l) with
  | none => rfl
  | some D =>
    have hg := solveF_good (by decide) (ex_sel_about hl) hs
    have := (ex_sol _ hl).1 ((solveF_sol (by decide) (ex_sel_about hl) hs _).1 (hg.sol (In.org _)))
    exact (h _ this.1 this.2).elim
def yr (l : List Int) (i : Nat) : Int := l.getD i 0
/-- Years for all facts but the last; for all but 2; for all but 0 and 1. -/
def yr1 : Nat → Int := yr [-25, 50, -105, -26, -25, 75, -4000, -4000]
def yr2 : Nat → Int := yr [60, 60, 45, 60, 60, 80, 0, 0]
def yr3 : Nat → Int := yr [20, 60, 45, 60, 20, 80, 0, 0]
theorem ex_w1 {l : List Nat} (h : ∀ j ∈ l, j < 6) : badL exP exG l = false := by
  refine ex_some (fun j hj => by have := h j hj; omega) yr1 ⟨by unfold ExB; decide, fun j hj => ?_⟩
  have := h j hj
  rcases (show j = 0 ∨ j = 1 ∨ j = 2 ∨ j = 3 ∨ j = 4 ∨ j = 5 by omega) with rfl | rfl | rfl | rfl | rfl | rfl <;> (simp only [ExC]; decide)
theorem ex_w2 {l : List Nat} (h : ∀ j ∈ l, j < 7 ∧ j ≠ 2) : badL exP exG l = false := by
  refine ex_some (fun j hj => by have := h j hj; omega) yr2 ⟨by unfold ExB; decide, fun j hj => ?_⟩
  have := h j hj
  rcases (show j = 0 ∨ j = 1 ∨ j = 3 ∨ j = 4 ∨ j = 5 ∨ j = 6 by omega) with rfl | rfl | rfl | rfl | rfl | rfl <;> (simp only [ExC]; decide)
theorem ex_w3 {l : List Nat} (h : ∀ j ∈ l, j < 7 ∧ j ≠ 0 ∧ j ≠ 1) : badL exP exG l = false := by
  refine ex_some (fun j hj => by have := h j hj; omega) yr3 ⟨by unfold ExB; decide, fun j hj => ?_⟩
  have := h j hj
  rcases (show j = 2 ∨ j = 3 ∨ j = 4 ∨ j = 5 ∨ j = 6 by omega) with rfl | rfl | rfl | rfl | rfl <;> (simp only [ExC]; decide)
theorem ex_bad : badL exP exG [0, 2, 6] = true := by
  refine ex_none (by decide) fun t h k => ?_
  have h0 := k 0 (by decide)
  have h2 := k 2 (by decide)
  have h6 := k 6 (by decide)
  simp only [ExC] at h0 h2 h6
  unfold ExB at h
  omega
def exO (l : List Nat) : Option Bool :=
  if l.all (fun j => decide (j < 6)) then some false else if l.all (fun j => decide (j < 7 ∧ j ≠ 2)) then some false else if l.all (fun j => decide (j < 7 ∧ j ≠ 0 ∧ j ≠ 1)) then some false else if l = [0, 2, 6] then some true else none
theorem exO_ok (l : List Nat) (b : Bool) (h : exO l = some b) : badL exP exG l = b := by
  unfold exO at h
  split at h
  · cases h; refine ex_w1 fun j hj => ?_; have := List.all_eq_true.1 ‹List.all l (fun j => decide (j < 6)) = true› j hj; simpa using this
  · split at h
    · cases h; refine ex_w2 fun j hj => ?_; have := List.all_eq_true.1 ‹List.all l (fun j => decide (j < 7 ∧ j ≠ 2)) = true› j hj; simpa using this
    · split at h
      · cases h; refine ex_w3 fun j hj => ?_; have := List.all_eq_true.1 ‹List.all l (fun j => decide (j < 7 ∧ j ≠ 0 ∧ j ≠ 1)) = true› j hj; simpa using this
      · split at h
        · cases h; rw [‹l = _›]; exact ex_bad
        · cases h
theorem ex_contr : contrF exP exG 4 = some [0, 2, 6] := by
  have e : solveF exP (selF exG []) = some (bornE exP.length 0 0) := rfl
  have h1 := srchO_ok exO_ok 0 _ [] 0 none e (by kernel_rfl)
  have h2 := srchO_ok exO_ok 1 _ [] 0 none e (by kernel_rfl)
  have h3 := srchO_ok exO_ok 2 _ [] 0 (some [0, 2, 6]) e (by kernel_rfl)
  unfold contrF
  simp only [List.range'_succ, List.findSome?_cons, Nat.sub_self, Nat.reduceAdd, Nat.reduceSub, h1, h2, h3]
theorem ex_solved : ∃ D, solveF exP exF = some D := by
  have := ex_w1 (l := [0, 1, 2, 3, 4, 5]) (by decide)
  unfold badL at this
  rw [ex_selF] at this
  cases h : solveF exP exF with
  | none => rw [h] at this; cases this
  | some D => exact ⟨D, rfl⟩
/-- All conditions of the example. -/
theorem ex_all {D : Mat} (e : solveF exP exF = some D) (t : Nat → Int) : Sol exP.length D t ↔ ExB t ∧ ∀ j ∈ [0, 1, 2, 3, 4, 5], ExC t j := by
  rw [solveF_sol (by decide) ex_aboutF e, ← ex_selF, ex_sol t (by decide)]
def yr4 : Nat → Int := yr [40, 140, 28, 60, 40, 140, 4000, 4100]
theorem ex_sol1 {D : Mat} (e : solveF exP exF = some D) : Sol exP.length D yr1 := by
  rw [ex_all e]
  refine ⟨by unfold ExB; decide, fun j hj => ?_⟩
  have : j < 6 := by simp at hj; omega
  rcases (show j = 0 ∨ j = 1 ∨ j = 2 ∨ j = 3 ∨ j = 4 ∨ j = 5 by omega) with rfl | rfl | rfl | rfl | rfl | rfl <;> (simp only [ExC]; decide)
theorem ex_sol4 {D : Mat} (e : solveF exP exF = some D) : Sol exP.length D yr4 := by
  rw [ex_all e]
  refine ⟨by unfold ExB; decide, fun j hj => ?_⟩
  have : j < 6 := by simp at hj; omega
  rcases (show j = 0 ∨ j = 1 ∨ j = 2 ∨ j = 3 ∨ j = 4 ∨ j = 5 by omega) with rfl | rfl | rfl | rfl | rfl | rfl <;> (simp only [ExC]; decide)
def yr5 : Nat → Int := yr [30, 60, -20, 40, 0, 80, 0, 0]
theorem ex_sol5 {D : Mat} (e : solveF exP exF = some D) : Sol exP.length D yr5 := by
  rw [ex_all e]
  refine ⟨by unfold ExB; decide, fun j hj => ?_⟩
  have : j < 6 := by simp at hj; omega
  rcases (show j = 0 ∨ j = 1 ∨ j = 2 ∨ j = 3 ∨ j = 4 ∨ j = 5 by omega) with rfl | rfl | rfl | rfl | rfl | rfl <;> (simp only [ExC]; decide)
/-- What the conditions say of any solution. -/
theorem ex_says {t : Nat → Int} (h : ExB t ∧ ∀ j ∈ [0, 1, 2, 3, 4, 5], ExC t j) : (t 48 - t 0 ≤ 25 ∧ t 0 - t 48 ≤ 40 ∧ t 48 - t 1 ≤ -50 ∧ t 1 - t 48 ≤ 140) ∧ (t 48 - t 2 ≤ 105 ∧ t 2 - t 48 ≤ 28 ∧ t 48 - t 3 ≤ 26 ∧ t 3 - t 48 ≤ 60) ∧ t 4 - t 0 ≤ 0 := by
  obtain ⟨hb, h⟩ := h
  have h0 := h 0 (by decide)
  have h1 := h 1 (by decide)
  have h2 := h 2 (by decide)
  have h3 := h 3 (by decide)
  have h4 := h 4 (by decide)
  have h5 := h 5 (by decide)
  simp only [ExC] at h0 h1 h2 h3 h4 h5
  unfold ExB at hb
  omega
theorem ex_vals {D : Mat} (e : solveF exP exF = some D) : (D 48 0 = 25 ∧ D 0 48 = 40 ∧ D 48 1 = -50 ∧ D 1 48 = 140) ∧ (D 48 2 = 105 ∧ D 2 48 = 28 ∧ D 48 3 = 26 ∧ D 3 48 = 60) ∧ D 4 0 ≤ 0 ∧ 0 < D 0 4 := by
  have hg := solveF_good (by decide) ex_aboutF e
  have hi : ∀ i, i < 8 → In exP.length i := fun i h => .inl (by show i < 8; omega)
  have ho : In exP.length 48 := .inr rfl
  have hs : ∀ k, In exP.length k → _ := fun k hk => ex_says ((ex_all e _).1 (hg.sol hk))
  have z : ∀ k, In exP.length k → D k k = 0 := fun k hk => hg.diag k (hk.lt (by decide))
  have s48 := hs 48 ho
  have s0 := hs 0 (hi 0 (by omega))
  have s1 := hs 1 (hi 1 (by omega))
  have s2 := hs 2 (hi 2 (by omega))
  have s3 := hs 3 (hi 3 (by omega))
  have z0 := z 0 (hi 0 (by omega))
  have z1 := z 1 (hi 1 (by omega))
  have z2 := z 2 (hi 2 (by omega))
  have z3 := z 3 (hi 3 (by omega))
  have zo := z 48 ho
  have w1 := ex_sol1 e
  have w4 := ex_sol4 e
  have a0 : yr1 48 - yr1 0 ≤ D 48 0 := w1 48 0 ho (hi 0 (by omega))
  have a1 : yr1 48 - yr1 1 ≤ D 48 1 := w1 48 1 ho (hi 1 (by omega))
  have a2 : yr1 48 - yr1 2 ≤ D 48 2 := w1 48 2 ho (hi 2 (by omega))
  have a3 : yr1 48 - yr1 3 ≤ D 48 3 := w1 48 3 ho (hi 3 (by omega))
  have b0 : yr4 0 - yr4 48 ≤ D 0 48 := w4 0 48 (hi 0 (by omega)) ho
  have b1 : yr4 1 - yr4 48 ≤ D 1 48 := w4 1 48 (hi 1 (by omega)) ho
  have b2 : yr4 2 - yr4 48 ≤ D 2 48 := w4 2 48 (hi 2 (by omega)) ho
  have b3 : yr4 3 - yr4 48 ≤ D 3 48 := w4 3 48 (hi 3 (by omega)) ho
  have c0 : yr5 0 - yr5 4 ≤ D 0 4 := ex_sol5 e 0 4 (hi 0 (by omega)) (hi 4 (by omega))
  simp only [show yr1 48 = 0 from rfl, show yr1 0 = -25 from rfl, show yr1 1 = 50 from rfl, show yr1 2 = -105 from rfl, show yr1 3 = -26 from rfl] at a0 a1 a2 a3
  simp only [show yr4 48 = 0 from rfl, show yr4 0 = 40 from rfl, show yr4 1 = 140 from rfl, show yr4 2 = 28 from rfl, show yr4 3 = 60 from rfl] at b0 b1 b2 b3
  simp only [show yr5 0 = 30 from rfl, show yr5 4 = 0 from rfl] at c0
  omega
theorem ex_may : mayB exP exF exActs = false := by
  have : (solveF exP (exF ++ [exActs])).isSome = false := by
    cases hs : solveF exP (exF ++ [exActs]) with
    | none => rfl
    | some D =>
      have ha : AllAbout exP (exF ++ [exActs]) := fun f hf => by
        rcases List.mem_append.1 hf with q | q
        · exact ex_aboutF f q
        · rw [List.mem_singleton.1 q]; exact ex_acts
      have hg := solveF_good (by decide) ha hs
      obtain ⟨h1, h2⟩ := (solveF_sol (by decide) ha hs _).1 (hg.sol (In.org _))
      rw [List.flatMap_append, sat_append] at h2
      obtain ⟨h3, h4⟩ := h2
      rw [show [exActs].flatMap (boundsF exP) = boundsF exP exActs from rfl, exb7] at h4
      simp only [sat_cons] at h4
      have := (ex_sol _ (l := [0, 1, 2, 3, 4, 5]) (by decide)).1 (show SolN exP (selF exG [0, 1, 2, 3, 4, 5]) _ by rw [ex_selF]; exact ⟨h1, h3⟩)
      have k := this.2 3 (by decide)
      simp only [ExC] at k
      omega
  unfold mayB
  rw [this]
  simp
theorem ex_must : mustV exP exF exAlive = true := by
  obtain ⟨D, hD⟩ := ex_solved
  obtain ⟨⟨h1, h2, h3, h4⟩, _⟩ := ex_vals hD
  unfold mustV
  rw [must_some hD, ex_check, ex_alive]
  unfold mustB
  rw [exb8]
  simp [overB]
  omega
theorem ex_mustE : mustE exP exF exAlive = 0 := by
  obtain ⟨D, hD⟩ := ex_solved
  unfold mustE
  rw [contrary_some hD, ex_check, ex_alive]
  rfl
end

section
open Go Go.RowKit Go.Shelf

def exD : List De := [⟨⟨#[100, 49]⟩, 10, nAda, ⟨#[108, 105, 111, 110]⟩, [nBel, nCur]⟩, ⟨⟨#[100, 50]⟩, 20, nCur, ⟨#[108, 105, 111, 110]⟩, [nDan]⟩, ⟨⟨#[100, 51]⟩, 110, nEli, ⟨#[]⟩, []⟩]
theorem exD_check : checkDF exD = 0 := by kernel_rfl
theorem short_of {l : List ByteArray} (h : (l.all fun s => decide (s.size ≤ 16)) = true) : Short l := fun s hs => by
  have := List.all_eq_true.1 h s hs
  rw [decide_eq_true_eq] at this
  omega
theorem exD_short : ShortDs exD := by
  intro d hd
  have : (exD.all fun d => decide (d.nm.size ≤ 16) && decide (d.sealer.size ≤ 16) && decide (d.sl.size ≤ 16) && d.wit.all fun s => decide (s.size ≤ 16)) = true := by kernel_rfl
  have := List.all_eq_true.1 this d hd
  simp only [Bool.and_eq_true, decide_eq_true_eq] at this
  obtain ⟨⟨⟨h1, h2⟩, h3⟩, h4⟩ := this
  exact ⟨⟨by omega, by omega, by omega⟩, short_of h4⟩
theorem exP_short : Short exP := short_of (by kernel_rfl)
def knownI (ds : List De) (s : ByteArray) : List ByteArray := if s ∈ setI (partL ds) then setI (partL (withF ds s)) else []
theorem knownF_I (ds : List De) : knownF ds = knownI ds := by
  funext s
  unfold knownF knownI metF allF
  rw [setL_setI]
theorem exD_away : dsI (knownI exD) nDan 4 = ([(nDan, 0), (nCur, 1), (nAda, 2), (nBel, 2)], []) := by kernel_rfl
theorem exD_all : allF exD = [nAda, nBel, nCur, nDan, nEli] := by
  unfold allF
  rw [setL_setI]
  kernel_rfl
theorem exD_chain {i : Nat} (h : (dsI (knownF exD) nDan i).2 = []) : chainV exD (dsI (knownF exD) nDan i).1 nAda nDan = some [nAda, nCur, nDan] := by
  rw [knownF_I] at h ⊢
  rw [dsI_uniq h (show (dsI (knownI exD) nDan 4).2 = [] by rw [exD_away]), exD_away]
  unfold chainV
  rw [show stepOf [(nDan, 0), (nCur, 1), (nAda, 2), (nBel, 2)] nAda = some 2 by kernel_rfl]
  simp only
  rw [exD_all, if_pos ⟨by decide, by decide⟩, knownF_I]
  exact congrArg some (show chN (knownI exD) [(nDan, 0), (nCur, 1), (nAda, 2), (nBel, 2)] 2 [nAda] = [nAda, nCur, nDan] by kernel_rfl)
theorem ex_par0 : parentsF exF nBel = [] := by
  unfold parentsF
  rw [setL_setI]
  kernel_rfl
theorem ex_par1 : parentsF exF nCur = [nBel] := by
  unfold parentsF
  rw [setL_setI]
  kernel_rfl
theorem ex_abA : abI exF [nBel] 1 = ([(nBel, 0)], []) := by
  show abS exF 0 [nBel] [] [] = _
  simp only [abS, hasN, List.any_nil, Bool.false_eq_true, if_false, ex_par0, List.append_nil, List.nil_append]
theorem ex_abB : abI exF [nCur] 2 = ([(nCur, 0), (nBel, 1)], []) := by
  show abS exF 1 (abS exF 0 [nCur] [] []).2 (abS exF 0 [nCur] [] []).1 [] = _
  have h1 : abS exF 0 [nCur] [] [] = ([(nCur, 0)], [nBel]) := by
    simp only [abS, hasN, List.any_nil, Bool.false_eq_true, if_false, ex_par1, List.nil_append]
  rw [h1]
  simp only [abS]
  rw [show hasN [(nCur, 0)] nBel = false by kernel_rfl, ex_par0]
  rfl
theorem ex_kin {iA iB : Nat} {fd : Bool} {up dn : Nat} (hA : (abI exF [nBel] iA).2 = []) (hB : (abI exF [nCur] iB).2 = []) (h : BestP (abI exF [nBel] iA).1 (abI exF [nCur] iB).1 fd up dn) : up = 0 ∧ dn = 1 ∧ fd = true := by
  rw [abI_uniq hA (show (abI exF [nBel] 1).2 = [] by rw [ex_abA]), ex_abA, abI_uniq hB (show (abI exF [nCur] 2).2 = [] by rw [ex_abB]), ex_abB] at h
  have hs : stepOf [(nCur, 0), (nBel, 1)] nBel = some 1 := by kernel_rfl
  cases fd with
  | false =>
    have := (h.1 rfl).2.2 (nBel, 0) (by simp)
    simp only at this
    rw [hs] at this
    cases this
  | true =>
    obtain ⟨q, hq, h1, h2⟩ := (h.2 rfl).1
    rw [List.mem_singleton.1 hq] at h1 h2
    simp only at h1 h2
    rw [hs] at h2
    cases h2
    exact ⟨h1.symm, rfl, rfl⟩
theorem ex_ch : childrenF exF nBel = [nAda, nCur] := by
  unfold childrenF
  rw [setL_setI]
  kernel_rfl
theorem ex_named : namedF exP exF [nBel] = 0 := by kernel_rfl
theorem exb9 : boundsF exP ⟨3, nAda, nCur, 0⟩ = [⟨0, 4, 0⟩] := by kernel_rfl
theorem ex_elder {D : Mat} (e : solveF exP exF = some D) : elderF D exP [nAda, nCur] [nAda, nCur] = [nCur] := by
  obtain ⟨_, _, h1, h2⟩ := ex_vals e
  have y1 : youngerB D exP nAda nCur = true := by
    unfold youngerB mustB
    rw [exb9, decide_eq_true (by decide)]
    simp [overB, h2]
  have y2 : youngerB D exP nCur nAda = false := by
    unfold youngerB mustB
    rw [exb5, decide_eq_true (by decide)]
    simp [overB]
    omega
  have y3 : youngerB D exP nCur nCur = false := by
    unfold youngerB
    rw [decide_eq_false (by simp)]
    rfl
  unfold elderF
  simp [y1, y2, y3]
theorem ex_heirs : heirsV exP exF nBel = ([.string nAda, .int .i64 1, .int .i64 3, .string nCur, .int .i64 2, .int .i64 3], 0) := by
  obtain ⟨D, hD⟩ := ex_solved
  unfold heirsV
  rw [ex_named, if_neg (fun q => q rfl), hD, ex_ch]
  simp only
  rw [ex_elder hD, show partsF [nAda, nCur] [nCur] = 3 from rfl, show firstF [nAda, nCur] [nCur] = nCur from rfl]
  have r1 : shareR nCur 3 nAda = ⟨1, 3, 0⟩ := by kernel_rfl
  have r2 : shareR nCur 3 nCur = ⟨2, 3, 0⟩ := by kernel_rfl
  simp [sharesV, shareV, r1, r2]
theorem ex_lives : ∃ rest, livL exP exF = [.int .i64 (-25), .int .i64 40, .int .i64 50, .int .i64 140, .int .i64 (-105), .int .i64 28, .int .i64 (-26), .int .i64 60] ++ rest ∧ (livL exP exF).length = 16 := by
  obtain ⟨D, hD⟩ := ex_solved
  obtain ⟨⟨a1, a2, a3, a4⟩, ⟨b1, b2, b3, b4⟩, _⟩ := ex_vals hD
  unfold livL
  rw [ex_check, if_neg (fun q => q rfl), hD]
  refine ⟨lifeV D 2 ++ lifeV D 3, ?_, by rw [show exP.length = 4 from rfl, livesV_length]⟩
  show livesV D 4 = _
  rw [livesV_succ, livesV_succ, livesV_succ, livesV_succ]
  simp only [lifeV, Nat.mul_zero, Nat.zero_add, Nat.mul_one, Nat.reduceAdd, a1, a2, a3, a4, b1, b2, b3, b4]
  rfl
theorem ex_livE : livE exP exF = 0 := by
  obtain ⟨D, hD⟩ := ex_solved
  unfold livE
  rw [ex_check, if_neg (fun q => q rfl), hD]
  rfl
theorem ex_cons : consF exP exF = true := by
  obtain ⟨D, hD⟩ := ex_solved
  unfold consF
  rw [ex_check, hD]
  rfl
theorem ex_factE : factE exP exF exActs = 0 := by kernel_rfl
theorem ex_contrV : contrV exP exG 4 = ([0, 2, 6], 0) := by
  unfold contrV
  rw [ex_checkG, if_neg (fun q => q rfl), if_neg (by decide), show (4 : Int).toNat = 4 from rfl, ex_contr]
end

section
open Go Go.RowKit Go.Shelf
attribute [local go_sem] Oper.semAt_some

theorem exF_cells : (fasV exF).toArray = #[.int .i64 1, .string ⟨#[97, 100, 97]⟩, .string ⟨#[98, 101, 108]⟩, .int .i64 0, .int .i64 1, .string ⟨#[99, 117, 114]⟩, .string ⟨#[98, 101, 108]⟩, .int .i64 0, .int .i64 5, .string ⟨#[97, 100, 97]⟩, .string ⟨#[]⟩, .int .i64 50, .int .i64 7, .string ⟨#[98, 101, 108]⟩, .string ⟨#[]⟩, .int .i64 60, .int .i64 5, .string ⟨#[99, 117, 114]⟩, .string ⟨#[]⟩, .int .i64 75, .int .i64 3, .string ⟨#[99, 117, 114]⟩, .string ⟨#[97, 100, 97]⟩, .int .i64 0] := by kernel_rfl
theorem exP_cells : (namesV exP).toArray = #[.string ⟨#[97, 100, 97]⟩, .string ⟨#[98, 101, 108]⟩, .string ⟨#[99, 117, 114]⟩, .string ⟨#[100, 97, 110]⟩] := by kernel_rfl
theorem cel_sl {w : World} {B s n : Nat} {t : TypeId} {l : List Value} (h : Cel w B t l.toArray) (hl : l.length = n * s) (hn : (n : Int) ≤ 9223372036854775807) : Sl w s (.slice (some ⟨B, 0, none⟩) n n) l :=
  ⟨_, n, n, rfl, hl, Nat.le_refl _, hn, fun _ => ⟨_, rfl, fun j u hu => by
    have : (⟨B, 0, none⟩ : Addr).add j = ⟨B, j, none⟩ := by unfold Addr.add; split <;> simp_all
    rw [this]
    exact h.cell j u (by simpa using hu)⟩⟩
set_option maxRecDepth 100000 in
set_option maxHeartbeats 1000000 in
theorem example_any (w : World) : Calls Tryz.prog 51 #[] w fun e w' => ∃ A F, e = .returned (.agg #[.slice (some ⟨A, 0, none⟩) 4 4, .slice (some ⟨F, 0, none⟩) 6 6]) ∧ Cel w' A 9 (namesV exP).toArray ∧ Cel w' F 76 (fasV exF).toArray ∧ (w.heap.size ≤ A ∧ A < F) ∧ NetC w' (some ⟨A, 0, none⟩) 4 4 (some ⟨F, 0, none⟩) 6 6 exP exF ∧ Below w.heap.size w w' := by
  have y0 := ((Cel.new w 25 #[.slice (some ⟨w.heap.size + 1, 0, none⟩) 4 4, .slice (some ⟨w.heap.size + 1 + 1, 0, none⟩) 6 6]).alloc (.cells (namesV exP).toArray 9)).alloc (.cells (fasV exF).toArray 76)
  have y1 := (Cel.new (w.alloc (.cells #[.slice (some ⟨w.heap.size + 1, 0, none⟩) 4 4, .slice (some ⟨w.heap.size + 1 + 1, 0, none⟩) 6 6] 25)) 9 (namesV exP).toArray).alloc (.cells (fasV exF).toArray 76)
  have y2 := Cel.new ((w.alloc (.cells #[.slice (some ⟨w.heap.size + 1, 0, none⟩) 4 4, .slice (some ⟨w.heap.size + 1 + 1, 0, none⟩) 6 6] 25)).alloc (.cells (namesV exP).toArray 9)) 76 (fasV exF).toArray
  have hb := ((below_alloc' w (.cells #[.slice (some ⟨w.heap.size + 1, 0, none⟩) 4 4, .slice (some ⟨w.heap.size + 1 + 1, 0, none⟩) 6 6] 25)).alloc (by simp) (.cells (namesV exP).toArray 9)).alloc (by simp; omega) (.cells (fasV exF).toArray 76)
  simp only [World.size_alloc] at y1 y2
  have s1 := cel_sl (s := 1) (n := 4) y1 (by decide) (by decide)
  have s2 := cel_sl (s := 4) (n := 6) y2 (by decide) (by decide)
  have HL := Lib.hid (show w.heap.size ≤ w.heap.size + 1 ∧ w.heap.size + 1 < w.heap.size + 1 + 1 by omega)
  have HS := Lib.hid (show NetC _ (some ⟨w.heap.size + 1, 0, none⟩) 4 4 (some ⟨w.heap.size + 1 + 1, 0, none⟩) 6 6 exP exF from ⟨s1, s2⟩)
  have HC := Lib.hid y2
  have HA := Lib.hid y1
  have HB := Lib.hid hb
  have z0 := y0.cell 0 _ rfl
  have z1 := y0.cell 1 _ rfl
  rw [exF_cells, exP_cells] at z0 z1 HS HB HC HA
  clear y0 y1 y2 s1 s2 hb
  go_enter Tryz.func51, Tryz.ntmps51
  go_wp2
  refine bodyPost_ret (v := .agg #[.slice (some ⟨w.heap.size + 1, 0, none⟩) 4 4, .slice (some ⟨w.heap.size + 1 + 1, 0, none⟩) 6 6]) (by simp [results, Tryz.results51, go_sem, z0, z1]) rfl ⟨_, _, rfl, ?_, ?_, HL.out, HS.out, HB.out⟩
  · rw [exP_cells]
    exact HA.out
  · rw [exF_cells]
    exact HC.out
theorem exD_names : (namesV [nBel, nCur]).toArray = #[.string ⟨#[98, 101, 108]⟩, .string ⟨#[99, 117, 114]⟩] := by kernel_rfl
theorem exD_names2 : (namesV [nDan]).toArray = #[.string ⟨#[100, 97, 110]⟩] := by kernel_rfl
set_option maxRecDepth 100000 in
set_option maxHeartbeats 1000000 in
theorem deeds_any (w : World) : Calls Tryz.prog 54 #[] w fun e w' => ∃ v, e = .returned v ∧ DeedsV w' v exD ∧ Below w.heap.size w w' := by
  have y1 := ((Cel.new w 9 (namesV [nBel, nCur]).toArray).alloc (.cells (namesV [nDan]).toArray 9)).alloc (.cells #[.string ⟨#[100, 49]⟩, .int .i64 10, .string ⟨#[97, 100, 97]⟩, .string ⟨#[108, 105, 111, 110]⟩, .slice (some ⟨w.heap.size, 0, none⟩) 2 2, .string ⟨#[100, 50]⟩, .int .i64 20, .string ⟨#[99, 117, 114]⟩, .string ⟨#[108, 105, 111, 110]⟩, .slice (some ⟨w.heap.size + 1, 0, none⟩) 1 1, .string ⟨#[100, 51]⟩, .int .i64 110, .string ⟨#[101, 108, 105]⟩, .string ⟨#[]⟩, .slice none 0 0] 63)
  have y2 := (Cel.new (w.alloc (.cells (namesV [nBel, nCur]).toArray 9)) 9 (namesV [nDan]).toArray).alloc (.cells #[.string ⟨#[100, 49]⟩, .int .i64 10, .string ⟨#[97, 100, 97]⟩, .string ⟨#[108, 105, 111, 110]⟩, .slice (some ⟨w.heap.size, 0, none⟩) 2 2, .string ⟨#[100, 50]⟩, .int .i64 20, .string ⟨#[99, 117, 114]⟩, .string ⟨#[108, 105, 111, 110]⟩, .slice (some ⟨w.heap.size + 1, 0, none⟩) 1 1, .string ⟨#[100, 51]⟩, .int .i64 110, .string ⟨#[101, 108, 105]⟩, .string ⟨#[]⟩, .slice none 0 0] 63)
  have y3 := Cel.new ((w.alloc (.cells (namesV [nBel, nCur]).toArray 9)).alloc (.cells (namesV [nDan]).toArray 9)) 63 (deCells (exD.zip [.slice (some ⟨w.heap.size, 0, none⟩) 2 2, .slice (some ⟨w.heap.size + 1, 0, none⟩) 1 1, .slice none 0 0])).toArray
  have hb := ((below_alloc' w (.cells (namesV [nBel, nCur]).toArray 9)).alloc (by simp) (.cells (namesV [nDan]).toArray 9)).alloc (by simp; omega) (.cells #[.string ⟨#[100, 49]⟩, .int .i64 10, .string ⟨#[97, 100, 97]⟩, .string ⟨#[108, 105, 111, 110]⟩, .slice (some ⟨w.heap.size, 0, none⟩) 2 2, .string ⟨#[100, 50]⟩, .int .i64 20, .string ⟨#[99, 117, 114]⟩, .string ⟨#[108, 105, 111, 110]⟩, .slice (some ⟨w.heap.size + 1, 0, none⟩) 1 1, .string ⟨#[100, 51]⟩, .int .i64 110, .string ⟨#[101, 108, 105]⟩, .string ⟨#[]⟩, .slice none 0 0] 63)
  simp only [World.size_alloc] at y2 y3
  have s1 := cel_sl (s := 1) (n := 2) y1 (by decide) (by decide)
  have s2 := cel_sl (s := 1) (n := 1) y2 (by decide) (by decide)
  have s3 := cel_sl (s := 5) (n := 3) y3 rfl (by decide)
  have HS1 := Lib.hid s1
  have HS2 := Lib.hid s2
  have HS3 := Lib.hid s3
  have HB := Lib.hid hb
  rw [exD_names, exD_names2] at HS1 HS2 HS3 HB
  clear y1 y2 y3 s1 s2 s3 hb
  go_enter Tryz.func54, Tryz.ntmps54
  go_wp2
  go_ret
  refine ⟨_, rfl, ⟨exD.zip [.slice (some ⟨w.heap.size, 0, none⟩) 2 2, .slice (some ⟨w.heap.size + 1, 0, none⟩) 1 1, .slice none 0 0], rfl, HS3.out, ?_⟩, HB.out⟩
  intro p hp
  rcases (show p = (⟨⟨#[100, 49]⟩, 10, nAda, ⟨#[108, 105, 111, 110]⟩, [nBel, nCur]⟩, .slice (some ⟨w.heap.size, 0, none⟩) 2 2) ∨ p = (⟨⟨#[100, 50]⟩, 20, nCur, ⟨#[108, 105, 111, 110]⟩, [nDan]⟩, .slice (some ⟨w.heap.size + 1, 0, none⟩) 1 1) ∨ p = (⟨⟨#[100, 51]⟩, 110, nEli, ⟨#[]⟩, []⟩, .slice none 0 0) by simpa [exD] using hp) with rfl | rfl | rfl
  · exact HS1.out
  · exact HS2.out
  · exact Sl.nil0 _ _
end

section
open Go Go.RowKit Go.Shelf
attribute [local go_sem] Oper.semAt_some

theorem fas_plain {l : List Fa} {u : Value} (h : u ∈ fasV l) (A : Option Addr) (n c : Nat) : u ≠ .slice A n c := by
  unfold fasV at h
  obtain ⟨f, _, hu⟩ := List.mem_flatMap.1 h
  unfold faV at hu
  simp only [List.mem_cons, List.not_mem_nil, or_false] at hu
  rcases hu with rfl | rfl | rfl | rfl <;> intro e <;> cases e
theorem lives_open {w : World} {v : Value} {l : List Value} {n : Nat} (h : Sl w 4 v l) (hl : l.length = n * 4) (h0 : 0 < n) : ∃ b o c, v = .slice (some ⟨b, o, none⟩) n c ∧ n ≤ c ∧ (c : Int) ≤ 9223372036854775807 ∧ b < w.heap.size ∧ ∀ j u, l[j]? = some u → w.cell? ⟨b, o + j, none⟩ = some u := by
  obtain ⟨A, n', c, rfl, e, h1, h2, h3⟩ := h.open2 (by decide)
  have : n' = n := by omega
  subst this
  obtain ⟨b, o, rfl, hb, hc⟩ := h3 h0
  exact ⟨b, o, c, rfl, h1, h2, hb, hc⟩
theorem shares_open {w : World} {v : Value} {l : List Value} {n : Nat} (h : Sl w 3 v l) (hl : l.length = n * 3) (h0 : 0 < n) : ∃ b o c, v = .slice (some ⟨b, o, none⟩) n c ∧ n ≤ c ∧ (c : Int) ≤ 9223372036854775807 ∧ b < w.heap.size ∧ ∀ j u, l[j]? = some u → w.cell? ⟨b, o + j, none⟩ = some u := by
  obtain ⟨A, n', c, rfl, e, h1, h2, h3⟩ := h.open2 (by decide)
  have : n' = n := by omega
  subst this
  obtain ⟨b, o, rfl, hb, hc⟩ := h3 h0
  exact ⟨b, o, c, rfl, h1, h2, hb, hc⟩
theorem exL_get {rest : List Value} {j : Nat} {u : Value} (h : [Value.int .i64 (-25), .int .i64 40, .int .i64 50, .int .i64 140, .int .i64 (-105), .int .i64 28, .int .i64 (-26), .int .i64 60][j]? = some u) : ([Value.int .i64 (-25), .int .i64 40, .int .i64 50, .int .i64 140, .int .i64 (-105), .int .i64 28, .int .i64 (-26), .int .i64 60] ++ rest)[j]? = some u := by
  have hj : j < 8 := (List.getElem?_eq_some_iff.1 h).1
  rw [List.getElem?_append_left hj]
  exact h
set_option maxRecDepth 100000 in
set_option maxHeartbeats 4000000 in
theorem works_any (w : World) (hz : Zw w) : Calls Tryz.prog 15 #[] w fun e w' => e = .returned (.bool true) ∧ Below w.heap.size w w' := by
  have HEx := Lib.hid (fun w' => example_any w')
  have HCo : Hid (∀ A F w', NetC w' A 4 4 F 6 6 exP exF → Calls Tryz.prog 38 #[.agg #[.slice A 4 4, .slice F 6 6]] w' fun e w'' => e = .returned (.tuple #[.bool true, .int .i64 0]) ∧ Below w'.heap.size w' w'') := fun A F w' h => by
    have := consistent_any A 4 4 F 6 6 exP exF w' h exP_short
    rwa [ex_cons, ex_check] at this
  have HLi : Hid (∀ A F w', NetC w' A 4 4 F 6 6 exP exF → Calls Tryz.prog 55 #[.agg #[.slice A 4 4, .slice F 6 6]] w' fun e w'' => ∃ b o c, e = .returned (.tuple #[.slice (some ⟨b, o, none⟩) 4 c, .int .i64 0]) ∧ (∀ j u, [Value.int .i64 (-25), .int .i64 40, .int .i64 50, .int .i64 140, .int .i64 (-105), .int .i64 28, .int .i64 (-26), .int .i64 60][j]? = some u → w''.cell? ⟨b, o + j, none⟩ = some u) ∧ Below w'.heap.size w' w'') := fun A F w' h => by
    refine (lives_any A 4 4 F 6 6 exP exF w' h exP_short).mono ?_
    rintro e w'' ⟨hb, v, rfl, hs⟩
    obtain ⟨rest, hl, hn⟩ := ex_lives
    obtain ⟨b, o, c, rfl, _, _, _, hc⟩ := lives_open hs (n := 4) hn (by decide)
    rw [ex_livE]
    refine ⟨b, o, c, rfl, fun j u hj => hc j u ?_, hb⟩
    rw [hl]
    exact exL_get hj
  have HMay : Hid (∀ A F w', NetC w' A 4 4 F 6 6 exP exF → Calls Tryz.prog 68 #[.agg #[.slice A 4 4, .slice F 6 6], .agg #[.int .i64 5, .string ⟨#[98, 101, 108]⟩, .string ⟨#[]⟩, .int .i64 70]] w' fun e w'' => e = .returned (.tuple #[.bool false, .int .i64 0]) ∧ Below w'.heap.size w' w'') := fun A F w' h => by
    have := may_any A 4 4 F 6 6 exP exF exActs w' h exP_short
    rwa [ex_may, ex_factE] at this
  have HMust : Hid (∀ A F w', NetC w' A 4 4 F 6 6 exP exF → Calls Tryz.prog 52 #[.agg #[.slice A 4 4, .slice F 6 6], .agg #[.int .i64 6, .string ⟨#[97, 100, 97]⟩, .string ⟨#[]⟩, .int .i64 45]] w' fun e w'' => e = .returned (.tuple #[.bool true, .int .i64 0]) ∧ Below w'.heap.size w' w'') := fun A F w' h => by
    have := pMust_any A 4 4 F 6 6 exP exF exAlive w' h exP_short
    rwa [ex_must, ex_mustE] at this
  have HCon : Hid (∀ A F d w', NetC w' A 4 4 F 7 d exP exG → Calls Tryz.prog 24 #[.agg #[.slice A 4 4, .slice F 7 d], .int .i64 4] w' fun e w'' => ∃ v, e = .returned (.tuple #[v, .int .i64 0]) ∧ Sl w'' 1 v (natsV [0, 2, 6]) ∧ Below w'.heap.size w' w'') := fun A F d w' h => by
    have := contr_any A 4 4 F 7 d exP exG 4 w' h exP_short
    rw [ex_contrV] at this
    refine this.mono ?_
    rintro e w'' ⟨hb, v, rfl, hs⟩
    exact ⟨v, rfl, hs, hb⟩
  have HEq : Hid (∀ (a b : Value) (w' : World), Sl w' 1 a (natsV [0, 2, 6]) → Sl w' 1 b [.int .i64 0, .int .i64 2, .int .i64 6] → Calls Tryz.prog 26 #[a, b] w' fun e w'' => e = .returned (.bool true) ∧ Below w'.heap.size w' w'') := fun a b w' h1 h2 => by
    have := eqInts_any a b [0, 2, 6] [0, 2, 6] w' h1 h2
    simpa using this
  have HKin : Hid (∀ A F w', NetC w' A 4 4 F 6 6 exP exF → Calls Tryz.prog 35 #[.agg #[.slice A 4 4, .slice F 6 6], .string ⟨#[98, 101, 108]⟩, .string ⟨#[99, 117, 114]⟩] w' fun e w'' => e = .returned (.tuple #[.int .i64 0, .int .i64 1, .int .i64 0]) ∧ Below w'.heap.size w' w'') := fun A F w' h => by
    refine (kin_good A 4 4 F 6 6 exP exF nBel nCur w' h exP_short (by kernel_rfl) (by decide) (by decide) ex_aboutF (by decide) (by decide)).mono ?_
    rintro e w'' ⟨hb, iA, iB, fd, up, dn, h1, h2, h3, rfl⟩
    obtain ⟨rfl, rfl, rfl⟩ := ex_kin h1 h2 h3
    exact ⟨rfl, hb⟩
  have HHe : Hid (∀ A F w', Zw w' → NetC w' A 4 4 F 6 6 exP exF → Calls Tryz.prog 12 #[.agg #[.slice A 4 4, .slice F 6 6], .string ⟨#[98, 101, 108]⟩] w' fun e w'' => ∃ b o c, e = .returned (.tuple #[.slice (some ⟨b, o, none⟩) 2 c, .int .i64 0]) ∧ (∀ j u, [Value.string nAda, .int .i64 1, .int .i64 3, .string nCur, .int .i64 2, .int .i64 3][j]? = some u → w''.cell? ⟨b, o + j, none⟩ = some u) ∧ Below w'.heap.size w' w'') := fun A F w' hz h => by
    have := heirs_any A 4 4 F 6 6 exP exF nBel w' h hz exP_short
    rw [ex_heirs] at this
    refine this.mono ?_
    rintro e w'' ⟨hb, v, rfl, hs⟩
    obtain ⟨b, o, c, rfl, _, _, _, hc⟩ := shares_open hs (n := 2) rfl (by decide)
    exact ⟨b, o, c, rfl, hc, hb⟩
  have HDe := Lib.hid (fun w' => deeds_any w')
  have HCh : Hid (∀ v w', DeedsV w' v exD → Calls Tryz.prog 19 #[v, .string ⟨#[97, 100, 97]⟩, .string ⟨#[100, 97, 110]⟩] w' fun e w'' => ∃ v', e = .returned (.tuple #[v', .int .i64 0]) ∧ Sl w'' 1 v' (namesV [nAda, nCur, nDan]) ∧ Below w'.heap.size w' w'') := fun v w' h => by
    refine (chain_good v exD nAda nDan w' h exD_short exD_check).mono ?_
    rintro e w'' ⟨hb, i, h1, h2⟩
    rw [exD_chain h1] at h2
    obtain ⟨v', rfl, hs⟩ := h2
    exact ⟨v', rfl, hs, hb⟩
  have HEt : Hid (∀ (a b : Value) (w' : World), Sl w' 1 a (namesV [nAda, nCur, nDan]) → Sl w' 1 b [.string ⟨#[97, 100, 97]⟩, .string ⟨#[99, 117, 114]⟩, .string ⟨#[100, 97, 110]⟩] → Calls Tryz.prog 21 #[a, b] w' fun e w'' => e = .returned (.bool true) ∧ Below w'.heap.size w' w'') := fun a b w' h1 h2 => eqTexts_same a b [nAda, nCur, nDan] w' h1 h2
  have HZ := Lib.hid hz
  clear hz
  go_enter Tryz.func15, Tryz.ntmps15
  go_wp2_with fail
  refine (HEx.out w).mono ?_
  rintro e w1 ⟨A1, F1, rfl, ha1, hc1, ⟨hf1, haf⟩, hn1, hb1⟩
  have HB1 := Lib.hid (hb1.alloc hb1.size (.cells #[.slice (some ⟨A1, 0, none⟩) 4 4, .slice (some ⟨F1, 0, none⟩) 6 6] 25))
  have HY1 := Lib.hid (Cel.new w1 25 #[.slice (some ⟨A1, 0, none⟩) 4 4, .slice (some ⟨F1, 0, none⟩) 6 6])
  have HC1 := Lib.hid (hc1.alloc (.cells #[.slice (some ⟨A1, 0, none⟩) 4 4, .slice (some ⟨F1, 0, none⟩) 6 6] 25))
  have HN1 := Lib.hid (hn1.below (below_alloc' w1 (.cells #[.slice (some ⟨A1, 0, none⟩) 4 4, .slice (some ⟨F1, 0, none⟩) 6 6] 25)))
  have HA1 := Lib.hid (ha1.alloc (.cells #[.slice (some ⟨A1, 0, none⟩) 4 4, .slice (some ⟨F1, 0, none⟩) 6 6] 25))
  have HF1 := Lib.hid (show w.heap.size ≤ A1 ∧ A1 < F1 ∧ F1 < w1.heap.size from ⟨hf1, haf, hc1.lt⟩)
  clear hc1 hf1 haf ha1 hn1 hb1
  go_wp2_with fail
  generalize w1.alloc (.cells #[.slice (some ⟨A1, 0, none⟩) 4 4, .slice (some ⟨F1, 0, none⟩) 6 6] 25) = W1 at *
  generalize w1.heap.size = B1 at *
  refine (HCo.out _ _ _ HN1.out).mono ?_
  rintro e w2 ⟨rfl, hb2⟩
  have HB2 := Lib.hid (HB1.out.trans (hb2.mono HB1.out.size))
  have HY2 := Lib.hid (HY1.out.below HY1.out.lt hb2)
  have HN2 := Lib.hid (HN1.out.below hb2)
  have HC2 := Lib.hid (HC1.out.below HC1.out.lt hb2)
  have HA2 := Lib.hid (HA1.out.below HA1.out.lt hb2)
  have z0 := HY2.out.cell 0 _ rfl
  have z1 := HY2.out.cell 1 _ rfl
  clear hb2 HCo HB1 HY1 HN1 HC1 HA1
  go_wp2_with fail
  clear z0 z1
  refine (HLi.out _ _ _ HN2.out).mono ?_
  rintro e w3 ⟨b3, o3, c3, rfl, hcl, hb3⟩
  have HB3 := Lib.hid (HB2.out.trans (hb3.mono HB2.out.size))
  have HY3 := Lib.hid (HY2.out.below HY2.out.lt hb3)
  have HN3 := Lib.hid (HN2.out.below hb3)
  have HC3 := Lib.hid (HC2.out.below HC2.out.lt hb3)
  have HA3 := Lib.hid (HA2.out.below HA2.out.lt hb3)
  have z0 := HY3.out.cell 0 _ rfl
  have z1 := HY3.out.cell 1 _ rfl
  have l0 : w3.cell? ⟨b3, o3, none⟩ = some (.int .i64 (-25)) := hcl 0 _ rfl
  have l1 := hcl 1 _ rfl
  have l2 := hcl 2 _ rfl
  have l3 := hcl 3 _ rfl
  have l4 := hcl 4 _ rfl
  have l5 : w3.cell? ⟨b3, o3 + 4 + 1, none⟩ = some (.int .i64 28) := hcl 5 _ rfl
  have l6 : w3.cell? ⟨b3, o3 + 4 + 2, none⟩ = some (.int .i64 (-26)) := hcl 6 _ rfl
  have l7 : w3.cell? ⟨b3, o3 + 4 + 3, none⟩ = some (.int .i64 60) := hcl 7 _ rfl
  clear hb3 HLi HB2 HY2 HN2 HC2 HA2 hcl
  go_wp2_with fail
  clear z0 z1 l0 l1 l2 l3 l4 l5 l6 l7
  refine (HMay.out _ _ _ HN3.out).mono ?_
  rintro e w4 ⟨rfl, hb4⟩
  have HB4 := Lib.hid (HB3.out.trans (hb4.mono HB3.out.size))
  have HY4 := Lib.hid (HY3.out.below HY3.out.lt hb4)
  have HN4 := Lib.hid (HN3.out.below hb4)
  have HC4 := Lib.hid (HC3.out.below HC3.out.lt hb4)
  have HA4 := Lib.hid (HA3.out.below HA3.out.lt hb4)
  have z0 := HY4.out.cell 0 _ rfl
  have z1 := HY4.out.cell 1 _ rfl
  clear hb4 HB3 HY3 HN3 HC3 HA3 HMay
  go_wp2_with fail
  clear z0 z1
  refine (HMust.out _ _ _ HN4.out).mono ?_
  rintro e w5 ⟨rfl, hb5⟩
  have HB5 := Lib.hid (HB4.out.trans (hb5.mono HB4.out.size))
  have HY5 := Lib.hid (HY4.out.below HY4.out.lt hb5)
  have HN5 := Lib.hid (HN4.out.below hb5)
  have HC5 := Lib.hid (HC4.out.below HC4.out.lt hb5)
  have HA5 := Lib.hid (HA4.out.below HA4.out.lt hb5)
  have z0 := HY5.out.cell 0 _ rfl
  have z1 := HY5.out.cell 1 _ rfl
  clear hb5 HB4 HY4 HN4 HC4 HA4 HMust
  have HO := Lib.hid ((show w5.ownsRow w.heap.size 76 4 (.slice (some ⟨F1, 0, none⟩) 6 6) 6 (fasV exF) from ⟨rfl, .inr ⟨F1, 6, (fasV exF).toArray, rfl, by have := HF1.out; omega, HC5.out, Nat.le_refl _, by decide, rfl, rfl⟩⟩).alloc (.cells #[.int .i64 4, .string ⟨#[98, 101, 108]⟩, .string ⟨#[]⟩, .int .i64 45] 76))
  have HS := Lib.hid (Sl.new (s := 4) w5 76 1 1 #[.int .i64 4, .string ⟨#[98, 101, 108]⟩, .string ⟨#[]⟩, .int .i64 45] rfl (Nat.le_refl _) (by decide))
  have HBa := Lib.hid (HB5.out.alloc HB5.out.size (.cells #[.int .i64 4, .string ⟨#[98, 101, 108]⟩, .string ⟨#[]⟩, .int .i64 45] 76))
  have HYa := Lib.hid (HY5.out.alloc (.cells #[.int .i64 4, .string ⟨#[98, 101, 108]⟩, .string ⟨#[]⟩, .int .i64 45] 76))
  have HAa := Lib.hid (HA5.out.alloc (.cells #[.int .i64 4, .string ⟨#[98, 101, 108]⟩, .string ⟨#[]⟩, .int .i64 45] 76))
  go_upto_region 8 with fail
  go_wp2_with (at_builtin; refine appFact _ _ rfl rfl rfl rfl HO.out HS.out (by simp [Value.oneCell']) (N := 7) rfl (by decide) HBa.out.size ?_; intro A7 c7 w6 hap; have hg := hap.grown; have hy6 := HYa.out.kept hg (fun e => absurd (Option.some.inj (show some B1 = some F1 from e)) (by have := HF1.out; omega)); have q0 := hy6.frozen 1; have q1 := hy6.cell 1 (.slice (some ⟨F1, 0, none⟩) 6 6) rfl; have y7 := hy6.setAt 1 (.slice A7 7 c7); have z2 := y7.cell 0 (.slice (some ⟨A1, 0, none⟩) 4 4) rfl; have z3 := y7.cell 1 (.slice A7 7 c7) rfl; have HY7 := Lib.hid y7; have HY6 := Lib.hid hy6; have HAP := Lib.hid hap; clear hg hy6 y7 hap)
  have HB7 := Lib.hid (((below_of_own HAP.out.grown HO.out HBa.out (Nat.le_refl _)).setCell (p := ⟨B1, 1, none⟩) (by have := HF1.out; simp; omega) (.slice A7 7 c7)))
  have HA7 := Lib.hid ((HAa.out.kept HAP.out.grown (fun e => absurd (Option.some.inj (show some A1 = some F1 from e)) (by have := HF1.out; omega))).other (p := ⟨B1, 1, none⟩) (by have := HF1.out; simp; omega) (.slice A7 7 c7))
  have HS7 := Lib.hid ((show Sl w6 4 (.slice A7 7 c7) (fasV exG) from Sl.of_own HAP.out.own).setCell q1 (fun u hu => fas_plain hu _ _ _) (.slice A7 7 c7))
  clear q0 q1 z0 z1 z2 z3
  generalize w6.setCell ⟨B1, 1, none⟩ (.slice A7 7 c7) = W7 at *
  have HN7 := Lib.hid (show NetC W7 (some ⟨A1, 0, none⟩) 4 4 A7 7 c7 exP exG from ⟨cel_sl (s := 1) (n := 4) HA7.out (by decide) (by decide), HS7.out⟩)
  clear HO HS HBa HYa HAa HAP HY6 HB5 HY5 HN5 HC5 HA5 HA7 HS7 HY7
  refine (HCon.out _ _ _ _ HN7.out).mono ?_
  rintro e w8 ⟨v8, rfl, hs8, hb8⟩
  have HB8 := Lib.hid (HB7.out.trans (hb8.mono HB7.out.size))
  have HS8 := Lib.hid (hs8.alloc (.cells #[.int .i64 0, .int .i64 2, .int .i64 6] 3))
  have HL8 := Lib.hid (Sl.new (s := 1) w8 3 3 3 #[.int .i64 0, .int .i64 2, .int .i64 6] rfl (Nat.le_refl _) (by decide))
  have HB9 := Lib.hid (HB8.out.alloc HB8.out.size (.cells #[.int .i64 0, .int .i64 2, .int .i64 6] 3))
  clear hs8 hb8 HB7 HN7 HCon HB8
  go_wp2_with fail
  refine (HEq.out _ _ _ HS8.out HL8.out).mono ?_
  rintro e w10 ⟨rfl, hb10⟩
  have HB10 := Lib.hid (HB9.out.trans (hb10.mono HB9.out.size))
  clear hb10 HB9 HS8 HL8 HEq
  go_wp2_with fail
  refine (HEx.out w10).mono ?_
  rintro e w11 ⟨A2, F2, rfl, ha2, hc2, _, hn2, hb11⟩
  have HB11 := Lib.hid (HB10.out.trans (hb11.mono HB10.out.size))
  have HN11 := Lib.hid hn2
  clear ha2 hc2 hn2 hb11 HB10
  go_wp2_with fail
  refine (HKin.out _ _ _ HN11.out).mono ?_
  rintro e w12 ⟨rfl, hb12⟩
  have HB12 := Lib.hid (HB11.out.trans (hb12.mono HB11.out.size))
  clear hb12 HB11 HN11 HKin
  go_wp2_with fail
  refine (HEx.out w12).mono ?_
  rintro e w13 ⟨A3, F3, rfl, ha3, hc3, _, hn3, hb13⟩
  have HB13 := Lib.hid (HB12.out.trans (hb13.mono HB12.out.size))
  have HN13 := Lib.hid hn3
  clear ha3 hc3 hn3 hb13 HB12 HEx
  go_wp2_with fail
  refine (HHe.out _ _ _ (HZ.out.below HB13.out) HN13.out).mono ?_
  rintro e w14 ⟨b14, o14, c14, rfl, hcl, hb14⟩
  have HB14 := Lib.hid (HB13.out.trans (hb14.mono HB13.out.size))
  have HCL := Lib.hid hcl
  clear hb14 HB13 HN13 HHe hcl
  go_wp2_with fail
  refine (HDe.out w14).mono ?_
  rintro e w15 ⟨v15, rfl, hd15, hb15⟩
  have HB15 := Lib.hid (HB14.out.trans (hb15.mono HB14.out.size))
  have HCL5 := Lib.hid (fun j u h => below_cell hb15 (HCL.out j u h))
  have HD15 := Lib.hid hd15
  clear hb15 hd15 HB14 HCL HDe
  go_wp2_with fail
  refine (HCh.out _ _ HD15.out).mono ?_
  rintro e w16 ⟨v16, rfl, hs16, hb16⟩
  have HB16 := Lib.hid (HB15.out.trans (hb16.mono HB15.out.size))
  have l3 : w16.cell? ⟨b14, o14 + 3, none⟩ = some (.string ⟨#[99, 117, 114]⟩) := below_cell hb16 (HCL5.out 3 _ rfl)
  have l4 : w16.cell? ⟨b14, o14 + 3 + 1, none⟩ = some (.int .i64 2) := below_cell hb16 (HCL5.out 4 _ rfl)
  have l5 : w16.cell? ⟨b14, o14 + 3 + 2, none⟩ = some (.int .i64 3) := below_cell hb16 (HCL5.out 5 _ rfl)
  have HS16 := Lib.hid (hs16.alloc (.cells #[.string ⟨#[97, 100, 97]⟩, .string ⟨#[99, 117, 114]⟩, .string ⟨#[100, 97, 110]⟩] 9))
  have HL16 := Lib.hid (Sl.new (s := 1) w16 9 3 3 #[.string ⟨#[97, 100, 97]⟩, .string ⟨#[99, 117, 114]⟩, .string ⟨#[100, 97, 110]⟩] rfl (Nat.le_refl _) (by decide))
  have HB17 := Lib.hid (HB16.out.alloc HB16.out.size (.cells #[.string ⟨#[97, 100, 97]⟩, .string ⟨#[99, 117, 114]⟩, .string ⟨#[100, 97, 110]⟩] 9))
  clear hb16 hs16 HB15 HCL5 HD15 HCh HB16
  go_wp2_with fail
  refine (HEt.out _ _ _ HS16.out HL16.out).mono ?_
  rintro e w18 ⟨rfl, hb18⟩
  have HB18 := Lib.hid (HB17.out.trans (hb18.mono HB17.out.size))
  clear hb18 HB17 HS16 HL16 HEt
  go_wp2
  go_ret
  exact ⟨rfl, HB18.out⟩
end
end Go.Proofs.YtdmcopjbckelmaaGreatDoor
