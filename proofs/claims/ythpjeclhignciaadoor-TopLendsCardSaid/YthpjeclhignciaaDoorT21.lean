/- Plain: interest adds up; arrays of dates and of debts. No condition. -/
import Derived.Test.YthpjeclhignciaaDoorT20
namespace Go.Proofs.YthpjeclhignciaaDoor
open Go Go.RowKit Go.Shelf

theorem intQ_add (PN PD RN RD a b : Int) : intQ PN PD RN RD a + intQ PN PD RN RD b = intQ PN PD RN RD (a + b) := by
  simp only [intQ, prodQ]
  have h : rat (a + b) 1 = rat a 1 + rat b 1 := by
    unfold rat
    rw [Rat.intCast_add]
    have : ((1 : Int) : Rat) = 1 := rfl
    rw [this]; grind
  rw [h]; grind
theorem scheme_add (kf ki kj : Nat) (F T U : Dt) : schemeF kf ki F T + schemeF ki kj T U = schemeF kf kj F U := by
  unfold schemeF; omega
theorem InC.uniq {ks : List ByteArray} {ys : List Yr} {d : Dt} {k k' : Nat} {m m' : Mo} (h : InC ks ys d k m) (h' : InC ks ys d k' m') : k = k' ∧ m = m' := by
  have := h.num.symm.trans h'.num
  simp at this
  exact this
/-- The day with a number. -/
def GoodD (ks : List ByteArray) (ys : List Yr) (d : Dt) : Prop := ∃ k m, InC ks ys d k m
theorem atE_good {ks : List ByteArray} {ys : List Yr} {n : Int} (h : (atE ks ys n).e = 0) : GoodD ks ys (atE ks ys n).d := by
  unfold atE at h ⊢
  split at h
  · next hc =>
    rw [if_pos hc]
    cases hm : atF (mos ys) n with
    | none => rw [hm] at h; simp at h
    | some m =>
      obtain ⟨k, hk, _⟩ := at_inC hc hm
      exact ⟨k, m, hk⟩
  · simp at h
theorem atE_bd (ks : List ByteArray) (ys : List Yr) (n : Int) : Bd (atE ks ys n).e := by
  unfold atE
  split
  · cases atF (mos ys) n <;> (unfold Bd; simp)
  · unfold Bd; simp
/-- An array of three dates, the first k of which are f's. -/
def OnA (vs : Array Value) (f : Nat → Dt) (k : Nat) : Prop :=
  vs.size = 12 ∧ ∀ j, j < k → vs[j * 4]? = some (.int .i64 (f j).Y) ∧ vs[j * 4 + 1]? = some (.int .i64 (f j).M) ∧ vs[j * 4 + 2]? = some (.bool (f j).S) ∧ vs[j * 4 + 3]? = some (.int .i64 (f j).D)
theorem OnA.put {vs : Array Value} {f : Nat → Dt} {k : Nat} (h : OnA vs f k) (hk : k < 3) (d : Dt) :
    OnA ((((vs.setIfInBounds (k * 4) (.int .i64 d.Y)).setIfInBounds (k * 4 + 1) (.int .i64 d.M)).setIfInBounds (k * 4 + 2) (.bool d.S)).setIfInBounds (k * 4 + 3) (.int .i64 d.D)) (fun j => if j = k then d else f j) (k + 1) := by
  obtain ⟨hs, hf⟩ := h
  refine ⟨by simp [hs], fun j hj => ?_⟩
  by_cases e : j = k
  · subst e
    simp only [if_true]
    simp [Array.getElem?_setIfInBounds, hs]
    omega
  · have hj' : j < k := by omega
    obtain ⟨a, b, c, e'⟩ := hf j hj'
    simp only [e, if_false]
    simp only [Array.getElem?_setIfInBounds]
    refine ⟨?_, ?_, ?_, ?_⟩
    · rw [if_neg (by omega), if_neg (by omega), if_neg (by omega), if_neg (by omega), a]
    · rw [if_neg (by omega), if_neg (by omega), if_neg (by omega), if_neg (by omega), b]
    · rw [if_neg (by omega), if_neg (by omega), if_neg (by omega), if_neg (by omega), c]
    · rw [if_neg (by omega), if_neg (by omega), if_neg (by omega), if_neg (by omega), e']
/-- A debt. -/
structure Db where
  a : Int
  b : Int
  c : Int
  d : Int
  x : Int
  y : Int
def OwA (vs : Array Value) (g : Nat → Db) (k : Nat) : Prop :=
  vs.size = 18 ∧ ∀ j, j < k → vs[j * 6]? = some (.int .i64 (g j).a) ∧ vs[j * 6 + 1]? = some (.int .i64 (g j).b) ∧ vs[j * 6 + 2]? = some (.int .i64 (g j).c) ∧ vs[j * 6 + 3]? = some (.int .i64 (g j).d)
theorem OwA.put {vs : Array Value} {g : Nat → Db} {k : Nat} (h : OwA vs g k) (hk : k < 3) (d : Db) :
    OwA ((((((vs.setIfInBounds (k * 6) (.int .i64 d.a)).setIfInBounds (k * 6 + 1) (.int .i64 d.b)).setIfInBounds (k * 6 + 2) (.int .i64 d.c)).setIfInBounds (k * 6 + 3) (.int .i64 d.d)).setIfInBounds (k * 6 + 4) (.int .i64 d.x)).setIfInBounds (k * 6 + 5) (.int .i64 d.y)) (fun j => if j = k then d else g j) (k + 1) := by
  obtain ⟨hs, hf⟩ := h
  refine ⟨by simp [hs], fun j hj => ?_⟩
  by_cases e : j = k
  · subst e
    simp only [if_true]
    simp [Array.getElem?_setIfInBounds, hs]
    omega
  · have hj' : j < k := by omega
    obtain ⟨a, b, c, e'⟩ := hf j hj'
    simp only [e, if_false]
    simp only [Array.getElem?_setIfInBounds]
    refine ⟨?_, ?_, ?_, ?_⟩
    · rw [if_neg (by omega), if_neg (by omega), if_neg (by omega), if_neg (by omega), if_neg (by omega), if_neg (by omega), a]
    · rw [if_neg (by omega), if_neg (by omega), if_neg (by omega), if_neg (by omega), if_neg (by omega), if_neg (by omega), b]
    · rw [if_neg (by omega), if_neg (by omega), if_neg (by omega), if_neg (by omega), if_neg (by omega), if_neg (by omega), c]
    · rw [if_neg (by omega), if_neg (by omega), if_neg (by omega), if_neg (by omega), if_neg (by omega), if_neg (by omega), e']
/-- A cell of a block whose cells are known only by their places. -/
theorem Cel.some {W : World} {B : Nat} {t : TypeId} {vs : Array Value} (h : Cel W B t vs) (k : Nat) (hk : k < vs.size) : ∃ v, W.cell? ⟨B, k, none⟩ = some v := ⟨vs[k], h.cell k _ (by simp [hk])⟩
/-- What the law says of two days in order. -/
theorem law_next {ks : List ByteArray} {ys : List Yr} {PN PD RN RD : Int} {F T U : Dt} {ki kj : Nat} {mi mj : Mo} {a b c d a' b' c' d' : Int}
    (h1 : OwP PN PD RN RD F T ks ys ki mi a b c d 0) (h2 : OwP PN PD RN RD F U ks ys kj mj a' b' c' d' 0)
    (he : (fit (intQ PN PD RN RD (schemeF ki kj T U))).e = 0) :
    isR c d = true ∧ isR (fit (intQ PN PD RN RD (schemeF ki kj T U))).n (fit (intQ PN PD RN RD (schemeF ki kj T U))).d = true ∧
    fit (rat c d + rat (fit (intQ PN PD RN RD (schemeF ki kj T U))).n (fit (intQ PN PD RN RD (schemeF ki kj T U))).d) = ⟨c', d', 0⟩ := by
  obtain ⟨kf, mf, f1, f2, f3, f4, f5, f6, f7, f8, f9⟩ := h1 rfl
  obtain ⟨kf', mf', g1, g2, g3, g4, g5, g6, g7, g8, g9⟩ := h2 rfl
  obtain ⟨rfl, rfl⟩ := f1.uniq g1
  obtain ⟨p1, p2⟩ := fit_isR f7
  obtain ⟨q1, q2⟩ := fit_isR he
  rw [← f8, ← f9] at p1 p2
  refine ⟨p1, q1, ?_⟩
  rw [p2, q2, intQ_add, scheme_add, g8, g9]
  have : fit (intQ PN PD RN RD (schemeF kf kj F U)) = ⟨(fit (intQ PN PD RN RD (schemeF kf kj F U))).n, (fit (intQ PN PD RN RD (schemeF kf kj F U))).d, (fit (intQ PN PD RN RD (schemeF kf kj F U))).e⟩ := rfl
  rw [g7] at this
  exact this
end Go.Proofs.YthpjeclhignciaaDoor
