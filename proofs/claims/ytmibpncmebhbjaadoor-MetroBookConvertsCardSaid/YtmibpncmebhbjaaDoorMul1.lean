/- Plain: the product of a list of ratios. -/
import Derived.Test.YtmibpncmebhbjaaDoorOrd1
namespace Go.Proofs.YtmibpncmebhbjaaDoor
open Go Go.RowKit Go.Shelf

def isRs (l : List (Int × Int)) : Prop := ∀ r ∈ l, isR r.1 r.2 = true
def prodQ : List (Int × Int) → Rat
  | [] => 1
  | r :: l => rat r.1 r.2 * prodQ l
def upL (l : List (Int × Int)) : List Nat := l.map fun r => r.1.natAbs
def dnL (l : List (Int × Int)) : List Nat := l.map fun r => r.2.natAbs
def negL : List (Int × Int) → Bool
  | [] => false
  | r :: l => (negL l != decide (r.1 < 0))
theorem negL_snoc (l : List (Int × Int)) (r : Int × Int) : negL (l ++ [r]) = (negL l != decide (r.1 < 0)) := by
  induction l with
  | nil => rfl
  | cons x l ih => simp only [List.cons_append, negL, ih]; cases negL l <;> cases decide (r.1 < 0) <;> cases decide (x.1 < 0) <;> rfl
theorem prodQ_append (l m : List (Int × Int)) : prodQ (l ++ m) = prodQ l * prodQ m := by
  induction l with
  | nil => simp only [List.nil_append, prodQ]; grind
  | cons x l ih => simp only [List.cons_append, prodQ, ih]; grind
theorem prodQ_zero {l : List (Int × Int)} {k : Nat} (hk : k < l.length) (h : l[k].1 = 0) : prodQ l = 0 := by
  induction l generalizing k with
  | nil => simp at hk
  | cons x l ih =>
    cases k with
    | zero =>
      simp only [List.getElem_cons_zero] at h
      have e : rat x.1 x.2 = 0 := by unfold rat; rw [h, Rat.div_def]; have : ((0 : Int) : Rat) = 0 := rfl; rw [this]; grind
      simp only [prodQ, e]; grind
    | succ k =>
      simp only [prodQ, ih (by simpa using hk) (by simpa using h)]; grind
theorem onesU {l : List (Int × Int)} (h : isRs l) (hz : ∀ r ∈ l, r.1 ≠ 0) : Ones (upL l) := by
  intro x hx
  obtain ⟨r, hr, rfl⟩ := List.mem_map.1 hx
  have h1 := isR_bd (h r hr)
  have h2 := hz r hr
  omega
theorem onesD {l : List (Int × Int)} (h : isRs l) : Ones (dnL l) := by
  intro x hx
  obtain ⟨r, hr, rfl⟩ := List.mem_map.1 hx
  have h1 := isR_bd (h r hr)
  omega
theorem val_ratio {l : List (Int × Int)} (h : isRs l) (hz : ∀ r ∈ l, r.1 ≠ 0) : sgn (negL l) (val (upL l) (dnL l)) = prodQ l := by
  induction l with
  | nil => simp only [negL, upL, dnL, List.map_nil, prodQ, sgn]; rw [val_nil]; rfl
  | cons r l ih =>
    have h' : isRs l := fun x hx => h x (by simp [hx])
    have hz' : ∀ x ∈ l, x.1 ≠ 0 := fun x hx => hz x (by simp [hx])
    have hr := isR_bd (h r (by simp))
    have hd : ¬ r.2 < 0 := by omega
    have e1 := sgn_ratio r.1 r.2 (by omega)
    have e2 := ih h' hz'
    have e3 : val (upL (r :: l)) (dnL (r :: l)) = val [r.1.natAbs] [r.2.natAbs] * val (upL l) (dnL l) :=
      val_append (U := [r.1.natAbs]) (D := [r.2.natAbs]) (fun x hx => by simp at hx; subst hx; omega) (onesD h')
    rw [decide_eq_false hd] at e1
    simp only [negL, prodQ]
    unfold rat
    rw [← e1, ← e2, e3]
    generalize val [r.1.natAbs] [r.2.natAbs] = a
    generalize val (upL l) (dnL l) = b
    cases negL l <;> cases decide (r.1 < 0) <;> simp [sgn] <;> grind
/-- A list of ratios in memory. -/
def rsV (l : List (Int × Int)) : List Value := l.flatMap fun r => [.int .i64 r.1, .int .i64 r.2]
theorem rsV_length (l : List (Int × Int)) : (rsV l).length = l.length * 2 := by
  induction l with
  | nil => rfl
  | cons u us ih => simp only [rsV, List.flatMap_cons, List.length_append] at ih ⊢; rw [ih]; simp; omega
theorem rsV_get {l : List (Int × Int)} {k : Nat} (hk : k < l.length) : (rsV l)[k * 2]? = some (.int .i64 l[k].1) ∧ (rsV l)[k * 2 + 1]? = some (.int .i64 l[k].2) := by
  induction l generalizing k with
  | nil => simp at hk
  | cons u us ih =>
    have e : rsV (u :: us) = .int .i64 u.1 :: .int .i64 u.2 :: rsV us := rfl
    cases k with
    | zero => rw [e]; simp
    | succ k =>
      have := ih (k := k) (by simpa using hk)
      rw [e, show (k + 1) * 2 = k * 2 + 1 + 1 from by omega]
      simpa using this
theorem own_keep {w w' : World} {base : Nat} {e : TypeId} {size n : Nat} {v : Value} {xs : List Value} {row : Option Nat} (h : w.ownsRow base e size v n xs) (hg : w.grownBy w' row) (hne : ∀ g, v.ownBlock = some g → row ≠ some g) : w'.ownsRow base e size v n xs := by
  obtain ⟨hl, ⟨rfl, rfl⟩ | ⟨g, cap, cur, rfl, hb, hh, r⟩⟩ := h
  · exact ⟨hl, .inl ⟨rfl, rfl⟩⟩
  · refine ⟨hl, .inr ⟨g, cap, cur, rfl, hb, ?_, r⟩⟩
    rw [hg.block g (Array.getElem?_eq_some_iff.1 hh).1 (fun e => hne g (by simp [Value.ownBlock]) e.symm)]
    exact hh
end Go.Proofs.YtmibpncmebhbjaaDoor
