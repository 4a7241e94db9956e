/- Plain: least distances between years. No condition. Plain: the distances of people about whom nothing is known. No condition. Plain: the reference's smallest bounds (all pairs). No condition. Walks of the package people: atMost. Conditions: those stated. Walks of the package people: atMost. Conditions: those stated. Walks of the package people: atMost, whole. Conditions: those stated. Walks of the package people: born. Conditions: those stated. Plain: networks, their facts, the bounds of a fact. No condition. -/
import Derived.Test.YtdmcopjbckelmaaGreatDoorZA
import Derived.Test.YtdmcopjbckelmaaGreatDoorProg
import Derived.WalkMore
namespace Go.Proofs.YtdmcopjbckelmaaGreatDoor
section
open Go

abbrev Mat := Nat → Nat → Int
/-- A bound: x is greater than y by so much, at most. -/
structure Bo where
  x : Nat
  y : Nat
  by_ : Int
def amF (D : Mat) (x y : Nat) (b : Int) : Mat := fun i k => if D i x < 1099511627776 ∧ D y k < 1099511627776 ∧ D i x + b + D y k < D i k then D i x + b + D y k else D i k
def am (D : Mat) (x y : Nat) (b : Int) : Option Mat := if D x y ≤ b then some D else if D y x + b < 0 then none else some (amF D x y b)
/-- The years of so many people, and the year 0. -/
def In (p i : Nat) : Prop := i < 2 * p ∨ i = 48
structure Good (p : Nat) (D : Mat) : Prop where
  diag : ∀ i, i < 49 → D i i = 0
  off : ∀ i k, i < 49 → k < 49 → i ≠ k → ¬ (In p i ∧ In p k) → D i k = 1099511627776
  tri : ∀ i j k, In p i → In p j → In p k → D i k ≤ D i j + D j k
  up : ∀ i, In p i → D i 48 ≤ 4100
  dn : ∀ k, In p k → D 48 k ≤ 4000
  many : p ≤ 24
theorem In.lt {p i : Nat} (hp : p ≤ 24) (h : In p i) : i < 49 := by unfold In at h; omega
theorem In.org (p : Nat) : In p 48 := .inr rfl
section
variable {p : Nat} {D : Mat}
theorem Good.hi (h : Good p D) {i k : Nat} (hi : In p i) (hk : In p k) : D i k ≤ 8100 := by
  have a := h.tri i 48 k hi (In.org p) hk
  have b := h.up i hi
  have c := h.dn k hk
  omega
theorem Good.lo (h : Good p D) {i k : Nat} (hi : In p i) (hk : In p k) : -8100 ≤ D i k := by
  have a := h.tri i k i hi hk hi
  have b := h.hi hk hi
  have c := h.diag i (hi.lt h.many)
  omega
/-- Any entry. -/
theorem Good.bd (h : Good p D) {i k : Nat} (hi : i < 49) (hk : k < 49) : -8100 ≤ D i k ∧ D i k ≤ 1099511627776 := by
  by_cases e : i = k
  · subst e
    have := h.diag i hi
    omega
  · by_cases hb : In p i ∧ In p k
    · have := h.hi hb.1 hb.2
      have := h.lo hb.1 hb.2
      omega
    · have := h.off i k hi hk e hb
      omega
/-- Years that keep all bounds. -/
def Sol (p : Nat) (D : Mat) (t : Nat → Int) : Prop := ∀ i k, In p i → In p k → t i - t k ≤ D i k
theorem Good.sol (h : Good p D) {k : Nat} (hk : In p k) : Sol p D (fun j => D j k) := fun i j hi hj => by
  have := h.tri i j k hi hj hk
  show D i k - D j k ≤ D i j
  omega
theorem Good.le_of {D' : Mat} (h : Good p D) (hs : ∀ t, Sol p D t → Sol p D' t) {i k : Nat} (hi : In p i) (hk : In p k) : D i k ≤ D' i k := by
  have a : D i k - D k k ≤ D' i k := hs _ (h.sol hk) i k hi hk
  have b := h.diag k (hk.lt h.many)
  omega
theorem Good.uniq {D' : Mat} (h : Good p D) (h' : Good p D') (hs : ∀ t, Sol p D t ↔ Sol p D' t) {i k : Nat} (hi : In p i) (hk : In p k) : D i k = D' i k := by
  have a := h.le_of (fun t => (hs t).1) hi hk
  have b := h'.le_of (fun t => (hs t).2) hi hk
  omega
theorem amF_in (h : Good p D) {x y : Nat} {b : Int} (hx : In p x) (hy : In p y) {i k : Nat} (hi : In p i) (hk : In p k) :
    (amF D x y b i k = D i k ∧ D i k ≤ D i x + b + D y k) ∨ (amF D x y b i k = D i x + b + D y k ∧ D i x + b + D y k < D i k) := by
  have a := h.hi hi hx
  have c := h.hi hy hk
  unfold amF
  by_cases e : D i x + b + D y k < D i k
  · right
    rw [if_pos ⟨by omega, by omega, e⟩]
    exact ⟨rfl, e⟩
  · left
    rw [if_neg (fun q => e q.2.2)]
    exact ⟨rfl, by omega⟩
theorem amF_good (h : Good p D) {x y : Nat} {b : Int} (hx : In p x) (hy : In p y) (hc : 0 ≤ D y x + b) : Good p (amF D x y b) := by
  refine ⟨fun i hi => ?_, fun i k hi hk hne hb => ?_, fun i j k hi hj hk => ?_, fun i hi => ?_, fun k hk => ?_, h.many⟩
  · by_cases hin : In p i
    · have d0 := h.diag i hi
      have t1 := h.tri y i x hy hin hx
      rcases amF_in h (b := b) hx hy hin hin with q | q <;> omega
    · have d0 := h.diag i hi
      have hix : i ≠ x := fun e => hin (e ▸ hx)
      have o1 := h.off i x hi (hx.lt h.many) hix (fun q => hin q.1)
      unfold amF
      rw [if_neg (fun q => by omega)]
      exact d0
  · have o := h.off i k hi hk hne hb
    unfold amF
    by_cases hin : In p i
    · have hkn : ¬ In p k := fun q => hb ⟨hin, q⟩
      have o2 := h.off y k (hy.lt h.many) hk (fun e => hkn (e ▸ hy)) (fun q => hkn q.2)
      rw [if_neg (fun q => by omega)]
      exact o
    · have o1 := h.off i x hi (hx.lt h.many) (fun e => hin (e ▸ hx)) (fun q => hin q.1)
      rw [if_neg (fun q => by omega)]
      exact o
  · have t0 := h.tri i j k hi hj hk
    have t1 := h.tri y j k hy hj hk
    have t2 := h.tri i j x hi hj hx
    have t3 := h.tri y j x hy hj hx
    rcases amF_in h (b := b) hx hy hi hk with q | q <;> rcases amF_in h (b := b) hx hy hi hj with r | r <;> rcases amF_in h (b := b) hx hy hj hk with s | s <;> omega
  · have := h.up i hi
    rcases amF_in h (b := b) hx hy hi (In.org p) with q | q <;> omega
  · have := h.dn k hk
    rcases amF_in h (b := b) hx hy (In.org p) hk with q | q <;> omega
theorem amF_sol (h : Good p D) {x y : Nat} {b : Int} (hx : In p x) (hy : In p y) (t : Nat → Int) : Sol p (amF D x y b) t ↔ Sol p D t ∧ t x - t y ≤ b := by
  constructor
  · intro hs
    refine ⟨fun i k hi hk => ?_, ?_⟩
    · have := hs i k hi hk
      rcases amF_in h (b := b) hx hy hi hk with q | q <;> omega
    · have := hs x y hx hy
      have d1 := h.diag x (hx.lt h.many)
      have d2 := h.diag y (hy.lt h.many)
      rcases amF_in h (b := b) hx hy hx hy with q | q <;> omega
  · rintro ⟨hs, hb⟩ i k hi hk
    have a1 := hs i k hi hk
    have a2 := hs i x hi hx
    have a3 := hs y k hy hk
    rcases amF_in h (b := b) hx hy hi hk with q | q <;> omega
theorem am_some {D' : Mat} (h : Good p D) {x y : Nat} {b : Int} (hx : In p x) (hy : In p y) (he : am D x y b = some D') : Good p D' ∧ ∀ t, Sol p D' t ↔ Sol p D t ∧ t x - t y ≤ b := by
  unfold am at he
  split at he
  · next hle =>
    cases he
    exact ⟨h, fun t => ⟨fun hs => ⟨hs, by have := hs x y hx hy; omega⟩, fun q => q.1⟩⟩
  · split at he
    · cases he
    · next hc =>
      cases he
      exact ⟨amF_good h hx hy (by omega), fun t => amF_sol h hx hy t⟩
theorem am_none {x y : Nat} {b : Int} (hx : In p x) (hy : In p y) (he : am D x y b = none) (t : Nat → Int) (hs : Sol p D t) : ¬ t x - t y ≤ b := by
  unfold am at he
  split at he
  · cases he
  · split at he
    · next hc =>
      have := hs y x hy hx
      omega
    · cases he
end
/-- Several bounds, one after another. -/
def amL (D : Mat) : List Bo → Option Mat
  | [] => some D
  | b :: l => match am D b.x b.y b.by_ with
    | none => none
    | some D' => amL D' l
def Sat (t : Nat → Int) (l : List Bo) : Prop := ∀ b ∈ l, t b.x - t b.y ≤ b.by_
def InL (p : Nat) (l : List Bo) : Prop := ∀ b ∈ l, In p b.x ∧ In p b.y
theorem amL_some {p : Nat} {l : List Bo} : ∀ {D D' : Mat}, Good p D → InL p l → amL D l = some D' → Good p D' ∧ ∀ t, Sol p D' t ↔ Sol p D t ∧ Sat t l := by
  induction l with
  | nil =>
    intro D D' h _ he
    cases he
    exact ⟨h, fun t => ⟨fun q => ⟨q, by simp [Sat]⟩, fun q => q.1⟩⟩
  | cons b l ih =>
    intro D D' h hin he
    obtain ⟨hx, hy⟩ := hin b (by simp)
    unfold amL at he
    cases hm : am D b.x b.y b.by_ with
    | none => rw [hm] at he; cases he
    | some D1 =>
      rw [hm] at he
      obtain ⟨g1, s1⟩ := am_some h hx hy hm
      obtain ⟨g2, s2⟩ := ih g1 (fun q hq => hin q (by simp [hq])) he
      refine ⟨g2, fun t => ?_⟩
      rw [s2 t, s1 t]
      simp only [Sat, List.mem_cons, forall_eq_or_imp]
      exact and_assoc
theorem amL_none {p : Nat} {l : List Bo} : ∀ {D : Mat}, Good p D → InL p l → amL D l = none → ∀ t, Sol p D t → ¬ Sat t l := by
  induction l with
  | nil => intro D h _ he; cases he
  | cons b l ih =>
    intro D h hin he t hs hsat
    obtain ⟨hx, hy⟩ := hin b (by simp)
    unfold amL at he
    cases hm : am D b.x b.y b.by_ with
    | none => exact am_none hx hy hm t hs (hsat b (by simp))
    | some D1 =>
      rw [hm] at he
      obtain ⟨g1, s1⟩ := am_some h hx hy hm
      exact ih g1 (fun q hq => hin q (by simp [hq])) he t ((s1 t).2 ⟨hs, hsat b (by simp)⟩) (fun q hq => hsat q (by simp [hq]))
end

section
open Go

def upF (i : Nat) : Int := if i = 48 then 0 else if i % 2 = 0 then 4000 else 4100
def dnF (k : Nat) : Int := if k = 48 then 0 else 4000
def baseF (i k : Nat) : Int := if i ≠ 48 ∧ k ≠ 48 ∧ i / 2 = k / 2 then (if i % 2 = 0 then 0 else 100) else upF i + dnF k
/-- So many people are in; of the next one's years: `a` as rows, `c` as columns (0: none; 1: the birth; 2: both). -/
def bornE (p a c : Nat) : Mat := fun i k => if i = k then 0 else if (i < 2 * p + a ∨ i = 48) ∧ (k < 2 * p + c ∨ k = 48) then baseF i k else 1099511627776
theorem bornE_self (p a c i : Nat) : bornE p a c i i = 0 := if_pos rfl
theorem bornE_out {p a c i k : Nat} (h : i ≠ k) (h' : ¬ ((i < 2 * p + a ∨ i = 48) ∧ (k < 2 * p + c ∨ k = 48))) : bornE p a c i k = 1099511627776 := by unfold bornE; rw [if_neg h, if_neg h']
theorem bornE_in {p a c i k : Nat} (h : i ≠ k) (h' : (i < 2 * p + a ∨ i = 48) ∧ (k < 2 * p + c ∨ k = 48)) : bornE p a c i k = baseF i k := by unfold bornE; rw [if_neg h, if_pos h']
theorem bornE_congr {p a c a' c' i k : Nat} (h : ((i < 2 * p + a ∨ i = 48) ∧ (k < 2 * p + c ∨ k = 48)) ↔ ((i < 2 * p + a' ∨ i = 48) ∧ (k < 2 * p + c' ∨ k = 48))) : bornE p a c i k = bornE p a' c' i k := by
  by_cases e : i = k
  · subst e; rw [bornE_self, bornE_self]
  by_cases q : (i < 2 * p + a ∨ i = 48) ∧ (k < 2 * p + c ∨ k = 48)
  · rw [bornE_in e q, bornE_in e (h.1 q)]
  · rw [bornE_out e q, bornE_out e (fun r => q (h.2 r))]
theorem upF_eq (i : Nat) : (i = 48 ∧ upF i = 0) ∨ (i ≠ 48 ∧ i % 2 = 0 ∧ upF i = 4000) ∨ (i ≠ 48 ∧ i % 2 = 1 ∧ upF i = 4100) := by unfold upF; repeat' split <;> omega
theorem dnF_eq (i : Nat) : (i = 48 ∧ dnF i = 0) ∨ (i ≠ 48 ∧ dnF i = 4000) := by unfold dnF; split <;> omega
/-- An entry of two different years. -/
theorem baseF_eq {i k : Nat} (h : i ≠ k) : (i % 2 = 0 ∧ k = i + 1 ∧ i ≠ 48 ∧ k ≠ 48 ∧ baseF i k = 0) ∨ (i = k + 1 ∧ k % 2 = 0 ∧ i ≠ 48 ∧ k ≠ 48 ∧ baseF i k = 100) ∨ (¬ (i ≠ 48 ∧ k ≠ 48 ∧ i / 2 = k / 2) ∧ baseF i k = upF i + dnF k) := by
  unfold baseF
  by_cases e : i ≠ 48 ∧ k ≠ 48 ∧ i / 2 = k / 2
  · rw [if_pos e]
    by_cases e2 : i % 2 = 0
    · rw [if_pos e2]; left; omega
    · rw [if_neg e2]; right; left; omega
  · rw [if_neg e]; right; right; exact ⟨e, rfl⟩
theorem baseF_nonneg (i k : Nat) : 0 ≤ baseF i k := by
  have a := upF_eq i
  have b := dnF_eq k
  unfold baseF
  repeat' split
  all_goals omega
theorem bornE_next (p : Nat) : bornE p 2 2 = bornE (p + 1) 0 0 := by
  funext i k
  unfold bornE
  rw [show 2 * p + 2 = 2 * (p + 1) + 0 from by omega]
theorem born_tri {p : Nat} {i j k : Nat} (hi : In p i) (hj : In p j) (hk : In p k) : bornE p 0 0 i k ≤ bornE p 0 0 i j + bornE p 0 0 j k := by
  unfold In at hi hj hk
  by_cases e1 : i = j
  · subst e1; rw [bornE_self]; omega
  by_cases e2 : j = k
  · subst e2; rw [bornE_self p 0 0 j]; omega
  rw [bornE_in e1 ⟨by omega, by omega⟩, bornE_in e2 ⟨by omega, by omega⟩]
  by_cases e3 : i = k
  · subst e3
    rw [bornE_self]
    have := baseF_nonneg i j
    have := baseF_nonneg j i
    omega
  rw [bornE_in e3 ⟨by omega, by omega⟩]
  have u1 := upF_eq i
  have u2 := upF_eq j
  have w1 := dnF_eq j
  have w2 := dnF_eq k
  rcases baseF_eq e1 with a | a | a <;> rcases baseF_eq e2 with b | b | b <;> rcases baseF_eq e3 with c | c | c <;> omega
theorem born_good {p : Nat} (hp : p ≤ 24) : Good p (bornE p 0 0) := by
  refine ⟨fun i _ => bornE_self _ _ _ i, fun i k hi hk hne hb => ?_, fun i j k hi hj hk => born_tri hi hj hk, fun i hi => ?_, fun k hk => ?_, hp⟩
  · unfold In at hb
    exact bornE_out hne (by omega)
  · unfold In at hi
    by_cases e : i = 48
    · subst e; rw [bornE_self]; omega
    · rw [bornE_in e ⟨by omega, by omega⟩]
      have u := upF_eq i
      have w := dnF_eq 48
      rcases baseF_eq e with a | a | a <;> omega
  · unfold In at hk
    by_cases e : 48 = k
    · subst e; rw [bornE_self]; omega
    · rw [bornE_in e ⟨by omega, by omega⟩]
      have u := upF_eq 48
      have w := dnF_eq k
      rcases baseF_eq e with a | a | a <;> omega
/-- Every entry lies between 0 and the great number. -/
theorem bornE_bd (p a c i k : Nat) : 0 ≤ bornE p a c i k ∧ bornE p a c i k ≤ 1099511627776 := by
  by_cases e : i = k
  · subst e; rw [bornE_self]; omega
  by_cases h : (i < 2 * p + a ∨ i = 48) ∧ (k < 2 * p + c ∨ k = 48)
  · rw [bornE_in e h]
    have u := upF_eq i
    have w := dnF_eq k
    rcases baseF_eq e with a | a | a <;> omega
  · rw [bornE_out e h]; omega
/-- A step that is taken: what is under a bound stays, what is not gets it. -/
theorem amF_val {D E : Mat} {x y : Nat} {b : Int} {i k : Nat} (h : (¬ (D i x < 1099511627776 ∧ D y k < 1099511627776) ∧ E i k = D i k) ∨ (D i x < 1099511627776 ∧ D y k < 1099511627776 ∧ ((D i x + b + D y k < D i k ∧ E i k = D i x + b + D y k) ∨ (¬ D i x + b + D y k < D i k ∧ E i k = D i k)))) : amF D x y b i k = E i k := by
  unfold amF
  rcases h with ⟨h1, h2⟩ | ⟨h1, h2, ⟨h3, h4⟩ | ⟨h3, h4⟩⟩
  · rw [if_neg (fun q => h1 ⟨q.1, q.2.1⟩), h2]
  · rw [if_pos ⟨h1, h2, h3⟩, h4]
  · rw [if_neg (fun q => h3 q.2.2), h4]
theorem born1_eq {p : Nat} (hp : p < 24) {i k : Nat} : amF (bornE p 0 0) (2 * p) 48 4000 i k = bornE p 1 0 i k := by
  apply amF_val
  by_cases hi : i = 2 * p
  · subst hi
    by_cases hk : 2 * p = k
    · left
      subst hk
      rw [bornE_out (i := 48) (by omega) (by omega), bornE_self, bornE_self]
      exact ⟨by omega, rfl⟩
    · by_cases hr : k < 2 * p ∨ k = 48
      · right
        rw [bornE_self, bornE_out hk (by omega), bornE_in hk (by omega)]
        by_cases h48 : 48 = k
        · subst h48
          rw [bornE_self]
          have u := upF_eq (2 * p)
          have w := dnF_eq 48
          rcases baseF_eq hk with a | a | a <;> omega
        · rw [bornE_in h48 (by omega)]
          have u := upF_eq (2 * p)
          have u2 := upF_eq 48
          have w := dnF_eq k
          rcases baseF_eq hk with a | a | a <;> rcases baseF_eq h48 with b | b | b <;> omega
      · left
        rw [bornE_out (i := 48) (by omega) (by omega), bornE_out hk (by omega), bornE_out hk (by omega)]
        exact ⟨by omega, rfl⟩
  · left
    rw [bornE_out (k := 2 * p) hi (by omega)]
    refine ⟨by omega, ?_⟩
    exact bornE_congr (by omega)
theorem born2_eq {p : Nat} (hp : p < 24) {i k : Nat} : amF (bornE p 1 0) 48 (2 * p) 4000 i k = bornE p 1 1 i k := by
  apply amF_val
  by_cases hi : i < 2 * p + 1 ∨ i = 48
  · have hd : bornE p 1 0 i 48 = upF i := by
      by_cases e : i = 48
      · subst e; rw [bornE_self]; rfl
      · rw [bornE_in e ⟨hi, .inr rfl⟩]
        have w := dnF_eq 48
        rcases baseF_eq e with a | a | a <;> omega
    have u := upF_eq i
    rw [hd]
    by_cases hk : k = 2 * p
    · subst hk
      right
      rw [bornE_self]
      by_cases e : i = 2 * p
      · subst e; rw [bornE_self, bornE_self]; omega
      · rw [bornE_out e (by omega), bornE_in e (by omega)]
        have w := dnF_eq (2 * p)
        rcases baseF_eq e with a | a | a <;> omega
    · by_cases hr : k < 2 * p ∨ k = 48
      · right
        have b := bornE_bd p 1 0 i k
        have hb2 : bornE p 1 0 (2 * p) k = upF (2 * p) + dnF k := by
          rw [bornE_in (Ne.symm hk) (by omega)]
          rcases baseF_eq (Ne.symm hk) with a | a | a <;> omega
        have u2 := upF_eq (2 * p)
        have w := dnF_eq k
        refine ⟨by omega, by omega, .inr ⟨?_, bornE_congr (by omega)⟩⟩
        rw [hb2]
        by_cases e : i = k
        · subst e; rw [bornE_self]; omega
        · rw [bornE_in e (by omega)]
          rcases baseF_eq e with a | a | a <;> omega
      · left
        rw [bornE_out (i := 2 * p) (Ne.symm hk) (by omega)]
        exact ⟨by omega, bornE_congr (by omega)⟩
  · left
    rw [bornE_out (k := 48) (by omega) (by omega)]
    exact ⟨by omega, bornE_congr (by omega)⟩
theorem born3_eq {p : Nat} (hp : p < 24) {i k : Nat} : amF (bornE p 1 1) (2 * p) (2 * p + 1) 0 i k = bornE p 1 2 i k := by
  apply amF_val
  by_cases hk : k = 2 * p + 1
  · subst hk
    by_cases hi : i < 2 * p + 1 ∨ i = 48
    · right
      have e : i ≠ 2 * p + 1 := by omega
      have hd : bornE p 1 1 i (2 * p) = baseF i (2 * p + 1) := by
        have w := dnF_eq (2 * p)
        have w2 := dnF_eq (2 * p + 1)
        by_cases e2 : i = 2 * p
        · subst e2
          rw [bornE_self]
          rcases baseF_eq e with a | a | a <;> omega
        · rw [bornE_in e2 (by omega)]
          rcases baseF_eq e2 with a | a | a <;> rcases baseF_eq e with b | b | b <;> omega
      have b := bornE_bd p 1 1 i (2 * p)
      have u := upF_eq i
      have w := dnF_eq (2 * p + 1)
      rw [bornE_self, bornE_out e (by omega), bornE_in e (by omega), hd]
      rcases baseF_eq e with a | a | a <;> omega
    · left
      rw [bornE_out (k := 2 * p) (by omega) (by omega)]
      exact ⟨by omega, bornE_congr (by omega)⟩
  · left
    rw [bornE_out (i := 2 * p + 1) (Ne.symm hk) (by omega)]
    exact ⟨by omega, bornE_congr (by omega)⟩
theorem born4_eq {p : Nat} (hp : p < 24) {i k : Nat} : amF (bornE p 1 2) (2 * p + 1) (2 * p) 100 i k = bornE p 2 2 i k := by
  apply amF_val
  have w := dnF_eq k
  have w2 := dnF_eq (2 * p + 1)
  have u := upF_eq i
  have u2 := upF_eq (2 * p)
  have u3 := upF_eq (2 * p + 1)
  by_cases hk : k < 2 * p + 2 ∨ k = 48
  · have hD : 0 ≤ bornE p 1 2 (2 * p) k ∧ bornE p 1 2 (2 * p) k < 1099511627776 ∧ (k = 2 * p → bornE p 1 2 (2 * p) k = 0) ∧ (k = 2 * p + 1 → bornE p 1 2 (2 * p) k = 0) ∧ (k ≠ 2 * p → k ≠ 2 * p + 1 → bornE p 1 2 (2 * p) k = 4000 + dnF k) := by
      by_cases e : 2 * p = k
      · subst e; rw [bornE_self]; omega
      · rw [bornE_in e (by omega)]
        rcases baseF_eq e with a | a | a <;> omega
    by_cases hi : i = 2 * p + 1
    · subst hi
      right
      rw [bornE_self]
      by_cases e : 2 * p + 1 = k
      · subst e; rw [bornE_self, bornE_self]; omega
      · rw [bornE_out e (by omega), bornE_in e (by omega)]
        rcases baseF_eq e with a | a | a <;> omega
    · by_cases hr : i < 2 * p + 1 ∨ i = 48
      · right
        have hd : bornE p 1 2 i (2 * p + 1) = baseF i (2 * p + 1) := bornE_in hi (by omega)
        have hb : bornE p 1 2 i k = bornE p 2 2 i k := bornE_congr (by omega)
        rw [hd]
        have hik : ¬ baseF i (2 * p + 1) + 100 + bornE p 1 2 (2 * p) k < bornE p 1 2 i k := by
          by_cases e2 : i = 2 * p
          · subst e2
            have := baseF_nonneg (2 * p) (2 * p + 1)
            omega
          · by_cases e : i = k
            · subst e; rw [bornE_self]
              have := baseF_nonneg i (2 * p + 1)
              omega
            · rw [bornE_in e (by omega)]
              rcases baseF_eq hi with a | a | a <;> rcases baseF_eq e with b | b | b <;> omega
        refine ⟨?_, hD.2.1, .inr ⟨hik, hb.symm⟩⟩
        rcases baseF_eq hi with a | a | a <;> omega
      · left
        rw [bornE_out (k := 2 * p + 1) hi (by omega)]
        exact ⟨by omega, bornE_congr (by omega)⟩
  · left
    rw [bornE_out (i := 2 * p) (by omega) (by omega)]
    exact ⟨by omega, bornE_congr (by omega)⟩
theorem am_take {D E : Mat} {x y : Nat} {b : Int} (h1 : ¬ D x y ≤ b) (h2 : 0 ≤ D y x + b) (h : ∀ i k, amF D x y b i k = E i k) : am D x y b = some E := by
  unfold am
  rw [if_neg h1, if_neg (by omega)]
  congr 1
  funext i k
  exact h i k
theorem born1 {p : Nat} (hp : p < 24) : am (bornE p 0 0) (2 * p) 48 4000 = some (bornE p 1 0) :=
  am_take (by rw [bornE_out (by omega) (by omega)]; omega) (by have := bornE_bd p 0 0 48 (2 * p); omega) (fun _ _ => born1_eq hp)
theorem born2 {p : Nat} (hp : p < 24) : am (bornE p 1 0) 48 (2 * p) 4000 = some (bornE p 1 1) :=
  am_take (by rw [bornE_out (by omega) (by omega)]; omega) (by have := bornE_bd p 1 0 (2 * p) 48; omega) (fun _ _ => born2_eq hp)
theorem born3 {p : Nat} (hp : p < 24) : am (bornE p 1 1) (2 * p) (2 * p + 1) 0 = some (bornE p 1 2) :=
  am_take (by rw [bornE_out (by omega) (by omega)]; omega) (by have := bornE_bd p 1 1 (2 * p + 1) (2 * p); omega) (fun _ _ => born3_eq hp)
theorem born4 {p : Nat} (hp : p < 24) : am (bornE p 1 2) (2 * p + 1) (2 * p) 100 = some (bornE (p + 1) 0 0) := by
  rw [← bornE_next]
  exact am_take (by rw [bornE_out (by omega) (by omega)]; omega) (by have := bornE_bd p 1 2 (2 * p) (2 * p + 1); omega) (fun _ _ => born4_eq hp)
end

section
open Go

def fwS (M : Mat) (j : Nat) : Mat := fun i k => if M i j + M j k < M i k then M i j + M j k else M i k
theorem fwS_eq (M : Mat) (j i k : Nat) : (fwS M j i k = M i j + M j k ∧ M i j + M j k < M i k) ∨ (fwS M j i k = M i k ∧ M i k ≤ M i j + M j k) := by
  unfold fwS
  by_cases e : M i j + M j k < M i k
  · rw [if_pos e]; exact .inl ⟨rfl, e⟩
  · rw [if_neg e]; exact .inr ⟨rfl, by omega⟩
/-- After so many rounds. -/
structure FwG (n j : Nat) (M : Mat) : Prop where
  diag : ∀ i, i < n → M i i = 0
  cl : ∀ l, l < j → ∀ i k, i < n → k < n → M i k ≤ M i l + M l k
def SolM (n : Nat) (M : Mat) (t : Nat → Int) : Prop := ∀ i k, i < n → k < n → t i - t k ≤ M i k
theorem fwS_sol {n j : Nat} {M : Mat} (hj : j < n) (t : Nat → Int) : SolM n (fwS M j) t ↔ SolM n M t := by
  constructor
  · intro h i k hi hk
    have := h i k hi hk
    rcases fwS_eq M j i k with q | q <;> omega
  · intro h i k hi hk
    have a := h i k hi hk
    have b := h i j hi hj
    have c := h j k hj hk
    rcases fwS_eq M j i k with q | q <;> omega
theorem fwS_neg {n j : Nat} {M : Mat} (hj : j < n) {i : Nat} (hi : i < n) (hn : fwS M j i i < 0) (t : Nat → Int) : ¬ SolM n M t := fun h => by
  have := ((fwS_sol hj t).2 h) i i hi hi
  omega
theorem fwS_row {n j : Nat} {M : Mat} (h : FwG n j M) (hj : j < n) (k : Nat) : fwS M j j k = M j k := by
  have := h.diag j hj
  rcases fwS_eq M j j k with q | q <;> omega
theorem fwS_col {n j : Nat} {M : Mat} (h : FwG n j M) (hj : j < n) (i : Nat) : fwS M j i j = M i j := by
  have := h.diag j hj
  rcases fwS_eq M j i j with q | q <;> omega
theorem fwS_good {n j : Nat} {M : Mat} (h : FwG n j M) (hj : j < n) (hd : ∀ i, i < n → 0 ≤ fwS M j i i) : FwG n (j + 1) (fwS M j) := by
  refine ⟨fun i hi => ?_, fun l hl i k hi hk => ?_⟩
  · have a := h.diag i hi
    have b := hd i hi
    rcases fwS_eq M j i i with q | q <;> omega
  · by_cases e : l = j
    · subst e
      rw [fwS_row h hj, fwS_col h hj]
      rcases fwS_eq M l i k with q | q <;> omega
    · have hlj : l < j := by omega
      have hln : l < n := by omega
      have c1 := h.cl l hlj i k hi hk
      have c2 := h.cl l hlj j k hj hk
      have c3 := h.cl l hlj i j hi hj
      have c4 := h.cl l hlj j j hj hj
      have d := h.diag j hj
      rcases fwS_eq M j i k with q | q <;> rcases fwS_eq M j i l with r | r <;> rcases fwS_eq M j l k with s | s <;> omega
/-- So many rounds; none: a year must be before itself. -/
def fwN (n : Nat) (M : Mat) : Nat → Option Mat
  | 0 => some M
  | j + 1 => match fwN n M j with
    | none => none
    | some M' => if (List.range n).any (fun i => decide (fwS M' j i i < 0)) then none else some (fwS M' j)
theorem fwN_some {n : Nat} {M : Mat} (h0 : ∀ i, i < n → M i i = 0) : ∀ {j : Nat} {M' : Mat}, j ≤ n → fwN n M j = some M' → FwG n j M' ∧ ∀ t, SolM n M' t ↔ SolM n M t := by
  intro j
  induction j with
  | zero =>
    intro M' _ he
    cases he
    exact ⟨⟨h0, fun l hl => by omega⟩, fun _ => Iff.rfl⟩
  | succ j ih =>
    intro M' hj he
    unfold fwN at he
    cases hm : fwN n M j with
    | none => rw [hm] at he; cases he
    | some M1 =>
      rw [hm] at he
      simp only at he
      obtain ⟨g, s⟩ := ih (by omega) hm
      split at he
      · cases he
      · next hc =>
        cases he
        simp only [List.any_eq_true, List.mem_range, decide_eq_true_eq, not_exists, not_and] at hc
        exact ⟨fwS_good g (by omega) (fun i hi => by have := hc i hi; omega), fun t => (fwS_sol (by omega) t).trans (s t)⟩
theorem fwN_none {n : Nat} {M : Mat} (h0 : ∀ i, i < n → M i i = 0) : ∀ {j : Nat}, j ≤ n → fwN n M j = none → ∀ t, ¬ SolM n M t := by
  intro j
  induction j with
  | zero => intro _ he; cases he
  | succ j ih =>
    intro hj he t ht
    unfold fwN at he
    cases hm : fwN n M j with
    | none => exact ih (by omega) hm t ht
    | some M1 =>
      rw [hm] at he
      simp only at he
      obtain ⟨g, s⟩ := fwN_some h0 (by omega) hm
      split at he
      · next hc =>
        simp only [List.any_eq_true, List.mem_range, decide_eq_true_eq] at hc
        obtain ⟨i, hi, hn⟩ := hc
        exact fwS_neg (by omega) hi hn t ((s t).2 ht)
      · cases he
/-- The bounds of the numbers. -/
theorem fwS_bd {M : Mat} {j : Nat} {B T : Int} (n : Nat) (hj : j < n) (hB : 0 ≤ B) (h : ∀ i k, i < n → k < n → -B ≤ M i k ∧ M i k ≤ T) : ∀ i k, i < n → k < n → -(2 * B) ≤ fwS M j i k ∧ fwS M j i k ≤ T := by
  intro i k hi hk
  have a := h i k hi hk
  have b := h i j hi hj
  have c := h j k hj hk
  rcases fwS_eq M j i k with q | q <;> omega
/-- Any two of the years, in the reference's order, against the program's. -/
def sg (i : Nat) : Nat := if i = 0 then 48 else i - 1
theorem sg_in {p i : Nat} (h : i < 1 + 2 * p) : In p (sg i) := by unfold sg In; split <;> omega
theorem sg_onto {p y : Nat} (hp : p ≤ 24) (h : In p y) : ∃ i, i < 1 + 2 * p ∧ sg i = y := by
  unfold In at h
  by_cases e : y = 48
  · exact ⟨0, by omega, by subst e; rfl⟩
  · exact ⟨y + 1, by omega, by unfold sg; rw [if_neg (by omega)]; omega⟩
/-- The two ways of reckoning agree. -/
theorem same_D {p : Nat} {D M : Mat} (h : Good p D) (g : FwG (1 + 2 * p) (1 + 2 * p) M) (hs : ∀ t, Sol p D t ↔ SolM (1 + 2 * p) M (fun i => t (sg i))) {i k : Nat} (hi : i < 1 + 2 * p) (hk : k < 1 + 2 * p) : D (sg i) (sg k) = M i k := by
  have key : ∀ D' : Mat, (∀ i k, i < 1 + 2 * p → k < 1 + 2 * p → D' (sg i) (sg k) = M i k) → D (sg i) (sg k) = D' (sg i) (sg k) := by
    intro D' hD'
    have a1 : D (sg i) (sg k) - D (sg k) (sg k) ≤ M i k := ((hs _).1 (h.sol (sg_in hk))) i k hi hk
    have d1 := h.diag (sg k) ((sg_in hk).lt h.many)
    have a2 : Sol p D (fun y => D' y (sg k)) := (hs _).2 (fun x z hx hz => by
      show D' (sg x) (sg k) - D' (sg z) (sg k) ≤ M x z
      rw [hD' x k hx hk, hD' z k hz hk]
      have := g.cl z hz x k hx hk
      omega)
    have a3 : D' (sg i) (sg k) - D' (sg k) (sg k) ≤ D (sg i) (sg k) := a2 _ _ (sg_in hi) (sg_in hk)
    have d2 := hD' k k hk hk
    have d3 := g.diag k hk
    have d4 := hD' i k hi hk
    omega
  have inv : ∀ i, i < 1 + 2 * p → (if sg i = 48 then 0 else sg i + 1) = i := by
    intro i hi
    have := h.many
    unfold sg
    by_cases e : i = 0
    · subst e; rfl
    · rw [if_neg e, if_neg (by omega)]; omega
  have := key (fun x y => M (if x = 48 then 0 else x + 1) (if y = 48 then 0 else y + 1)) (fun a b ha hb => by
    rw [inv a ha, inv b hb])
  rw [this]
  rw [inv i hi, inv k hk]
end

section
open Go Go.RowKit Go.Shelf
attribute [local go_sem] Oper.semAt_some

/-- The cells of a struct lives: its people, its distances. -/
def LvV (vs : Array Value) (pv : Value) (D : Mat) : Prop :=
  vs.size = 2402 ∧ vs[0]? = some pv ∧ ∀ i k, i < 49 → k < 49 → vs[1 + i * 49 + k]? = some (.int .i64 (D i k))
def DBd (D : Mat) : Prop := ∀ i k, i < 49 → k < 49 → -8100 ≤ D i k ∧ D i k ≤ 1099511627776
theorem Good.dbd {p : Nat} {D : Mat} (h : Good p D) : DBd D := fun _ _ hi hk => h.bd hi hk
/-- The distances while a step is under way. -/
def amAt (D : Mat) (x y : Nat) (b : Int) (r c : Nat) : Mat := fun i k => if i < r ∨ (i = r ∧ k < c) then amF D x y b i k else D i k
theorem amF_row {D : Mat} {x y : Nat} {b : Int} (hc : 0 ≤ D y x + b) (k : Nat) : amF D x y b y k = D y k := by
  unfold amF
  split
  · omega
  · rfl
theorem amF_col {D : Mat} {x y : Nat} {b : Int} (hc : 0 ≤ D y x + b) (i : Nat) : amF D x y b i x = D i x := by
  unfold amF
  split
  · omega
  · rfl
theorem amAt_row {D : Mat} {x y : Nat} {b : Int} (hc : 0 ≤ D y x + b) (r c k : Nat) : amAt D x y b r c y k = D y k := by
  unfold amAt
  split
  · exact amF_row hc k
  · rfl
theorem amAt_col {D : Mat} {x y : Nat} {b : Int} (hc : 0 ≤ D y x + b) (r c i : Nat) : amAt D x y b r c i x = D i x := by
  unfold amAt
  split
  · exact amF_col hc i
  · rfl
theorem amAt_here (D : Mat) (x y : Nat) (b : Int) (r c : Nat) : amAt D x y b r c r c = D r c := by
  unfold amAt; rw [if_neg (by omega)]
theorem amAt_zero (D : Mat) (x y : Nat) (b : Int) : amAt D x y b 0 0 = D := by
  funext i k; unfold amAt; rw [if_neg (by omega)]
theorem LvV.put {vs : Array Value} {pv : Value} {D E : Mat} (h : LvV vs pv D) {r c : Nat} (hr : r < 49) (hc : c < 49) {n : Int} (hE : ∀ i k, i < 49 → k < 49 → E i k = if i = r ∧ k = c then n else D i k) :
    LvV (vs.setIfInBounds (1 + r * 49 + c) (.int .i64 n)) pv E := by
  obtain ⟨h1, h2, h3⟩ := h
  refine ⟨by simp [h1], ?_, fun i k hi hk => ?_⟩
  · rw [Array.getElem?_setIfInBounds, if_neg (by omega)]; exact h2
  · rw [Array.getElem?_setIfInBounds, hE i k hi hk]
    by_cases e : i = r ∧ k = c
    · obtain ⟨rfl, rfl⟩ := e
      rw [if_pos rfl, if_pos (by omega), if_pos ⟨rfl, rfl⟩]
    · rw [if_neg (by omega), if_neg e]
      exact h3 i k hi hk
theorem LvV.same {vs : Array Value} {pv : Value} {D E : Mat} (h : LvV vs pv D) (hE : ∀ i k, i < 49 → k < 49 → E i k = D i k) : LvV vs pv E :=
  ⟨h.1, h.2.1, fun i k hi hk => by rw [hE i k hi hk]; exact h.2.2 i k hi hk⟩
end

section
open Go Go.RowKit Go.Shelf
attribute [local go_sem] Oper.semAt_some

theorem amAt_set {D : Mat} {x y : Nat} {b : Int} {r c : Nat} (h : D r x < 1099511627776 ∧ D y c < 1099511627776 ∧ D r x + b + D y c < D r c) (i k : Nat) :
    amAt D x y b r (c + 1) i k = if i = r ∧ k = c then D r x + b + D y c else amAt D x y b r c i k := by
  by_cases e : i = r ∧ k = c
  · obtain ⟨rfl, rfl⟩ := e
    rw [if_pos ⟨rfl, rfl⟩]
    unfold amAt amF
    rw [if_pos (by omega), if_pos h]
  · rw [if_neg e]
    unfold amAt
    by_cases q : i < r ∨ (i = r ∧ k < c)
    · rw [if_pos q, if_pos (by omega)]
    · rw [if_neg q, if_neg (by omega)]
theorem amAt_keep {D : Mat} {x y : Nat} {b : Int} {r c : Nat} (h : ¬ (D r x < 1099511627776 ∧ D y c < 1099511627776 ∧ D r x + b + D y c < D r c)) (i k : Nat) :
    amAt D x y b r (c + 1) i k = amAt D x y b r c i k := by
  by_cases e : i = r ∧ k = c
  · obtain ⟨rfl, rfl⟩ := e
    rw [amAt_here]
    unfold amAt amF
    rw [if_pos (by omega), if_neg h]
  · unfold amAt
    by_cases q : i < r ∨ (i = r ∧ k < c)
    · rw [if_pos q, if_pos (by omega)]
    · rw [if_neg q, if_neg (by omega)]
theorem grown_set (W : World) (B k : Nat) (v : Value) : W.grownBy (W.setCell ⟨B, k, none⟩ v) (some B) := by
  refine ⟨rfl, rfl, rfl, by simp, fun i _ hi => ?_⟩
  have e : B ≠ i := fun e => hi (by rw [e])
  simp only [World.setCell, Array.getElem?_modify]; rw [if_neg e]
theorem grown_drewN (W : World) (n : Nat) (r : Option Nat) : W.grownBy (W.drewN n) r := ⟨rfl, rfl, rfl, Nat.le_refl _, fun _ _ _ => rfl⟩
theorem Cel.drewN {W : World} {B n : Nat} {t : TypeId} {vs : Array Value} (h : Cel W B t vs) : Cel (W.drewN n) B t vs := h
set_option maxRecDepth 100000 in
set_option maxHeartbeats 4000000 in
theorem atMost_take (B x y : Nat) (b : Int) (D : Mat) (pv : Value) (vs : Array Value) (w : World) (hC : Cel w B 134 vs) (hV : LvV vs pv D) (hD : DBd D) (hx : x < 49) (hy : y < 49) (hb : -8100 ≤ b ∧ b ≤ 8100)
    (h1 : ¬ D x y ≤ b) (h2 : 0 ≤ D y x + b) :
    Calls Tryz.prog 122 #[.pointer (some ⟨B, 0, none⟩), .int .i64 x, .int .i64 y, .int .i64 b] w fun e w' =>
      e = .returned (.tuple #[]) ∧ ∃ vs', LvV vs' pv (amF D x y b) ∧ Cel w' B 134 vs' ∧ w.grownBy w' (some B) := by
  have hxi : (x : Int) < 49 := by omega
  have hyi : (y : Int) < 49 := by omega
  have c1 := hC.cell _ _ (hV.2.2 x y hx hy)
  have c2 := hC.cell _ _ (hV.2.2 y x hy hx)
  obtain ⟨b1, b2⟩ := hb
  have d1 := hD x y hx hy
  have d2 := hD y x hy hx
  have hw1 : IntKind.i64.wrap (D y x + b) = D y x + b := IntWalk.i64_in _ (by omega)
  have h2' : ¬ D y x + b < 0 := by omega
  go_enter Tryz.func122, Tryz.ntmps122
  go_step3
  go_wp2
  go_step3
  go_wp2
  have HVd := Lib.hid hV
  have HC0 := Lib.hid hC
  have HD := Lib.hid hD
  clear hV hC hD c1 c2
  go_loopw [34] (fun ti wr => ∃ (r : Nat) (us : Array Value), ti = .int .i64 r ∧ r ≤ 49 ∧ Hid (LvV us pv (amAt D x y b r 0)) ∧ Hid (Cel wr B 134 us) ∧ Hid (w.grownBy wr (some B))) (fun ti _ => 49 - (intOf ti).toNat)
  case atStart => exact ⟨0, vs, rfl, by omega, by rw [amAt_zero]; exact HVd.out, HC0.out, World.grownBy.refl _ _⟩
  case round =>
    obtain ⟨r, us, rfl, hr, HU, HC, HG⟩ := hrel
    by_cases hlt : r < 49
    · have hri : (r : Int) < 49 := by omega
      have c1 := HC.out.cell _ _ (HU.out.2.2 r x hlt hx)
      rw [amAt_col h2] at c1
      by_cases hf : D r x < 1099511627776
      · go_wp2
        clear c1
        go_loopw [46] (fun ti wi => ∃ (c : Nat) (us : Array Value), ti = .int .i64 c ∧ c ≤ 49 ∧ Hid (LvV us pv (amAt D x y b r c)) ∧ Hid (Cel wi B 134 us) ∧ Hid (w.grownBy wi (some B))) (fun ti _ => 49 - (intOf ti).toNat)
        case atStart => exact ⟨0, us, rfl, by omega, HU, HC, HG⟩
        case round =>
          clear HU HC HG
          obtain ⟨c, vs1, rfl, hc, HU, HC, HG⟩ := hrel
          by_cases hlc : c < 49
          · have hci : (c : Int) < 49 := by omega
            have k1 := HC.out.cell _ _ (HU.out.2.2 r x hlt hx)
            have k2 := HC.out.cell _ _ (HU.out.2.2 y c hy hlc)
            have k3 := HC.out.cell _ _ (HU.out.2.2 r c hlt hlc)
            rw [amAt_col h2] at k1
            rw [amAt_row h2] at k2
            rw [amAt_here] at k3
            have e1 := HD.out r x hlt hx
            have e2 := HD.out y c hy hlc
            have w1 : IntKind.i64.wrap (D r x + b) = D r x + b := IntWalk.i64_in _ (by omega)
            have w2 : IntKind.i64.wrap (D r x + b + D y c) = D r x + b + D y c := IntWalk.i64_in _ (by omega)
            clear e1 e2
            go_upto_region 10 with fail
            go_quiet (fail)
            have hz := HC.out.frozen (1 + r * 49 + c)
            by_cases hk : D y c < 1099511627776
            · by_cases hn : D r x + b + D y c < D r c
              · go_wp2
                go_roundw
                case rel =>
                  refine ⟨c + 1, _, by go_num, by omega, HU.out.put hlt hlc (fun i k _ _ => amAt_set ⟨hf, hk, hn⟩ i k), HC.out.drewN.setAt _ _, (HG.out.trans (grown_drewN _ _ _)).trans (grown_set _ B _ _)⟩
                case measure => simp [intOf]; omega
              · go_wp2
                go_roundw
                case rel =>
                  refine ⟨c + 1, vs1, by go_num, by omega, HU.out.same (fun i k _ _ => amAt_keep (fun q => hn q.2.2) i k), HC.out.drewN, HG.out.trans (grown_drewN _ _ _)⟩
                case measure => simp [intOf]; omega
            · go_wp2
              go_roundw
              case rel =>
                refine ⟨c + 1, vs1, by go_num, by omega, HU.out.same (fun i k _ _ => amAt_keep (fun q => hk q.2.1) i k), HC.out.drewN, HG.out.trans (grown_drewN _ _ _)⟩
              case measure => simp [intOf]; omega
          · have hc9 : c = 49 := by omega
            go_wp2
            refine ⟨⟨r + 1, vs1, by go_num, by omega, HU.out.same (fun i k hi hk => ?_), HC, HG⟩, by simp [intOf]; omega⟩
            unfold amAt
            by_cases e : i < r ∨ (i = r ∧ k < c)
            · rw [if_pos (by omega), if_pos e]
            · rw [if_neg (by omega), if_neg e]
      · go_wp2
        refine ⟨⟨r + 1, us, by go_num, by omega, HU.out.same (fun i k hi hk => ?_), HC, HG⟩, by simp [intOf]; omega⟩
        unfold amAt
        by_cases e : i = r
        · subst e
          rw [if_pos (by omega), if_neg (by omega)]
          unfold amF
          rw [if_neg (fun q => hf q.1)]
        · by_cases e2 : i < r
          · rw [if_pos (by omega), if_pos (by omega)]
          · rw [if_neg (by omega), if_neg (by omega)]
    · have hr9 : r = 49 := by omega
      go_wp2
      rw [Exit.noGoto_normal]
      go_end0
      exact ⟨rfl, us, HU.out.same (fun i k hi hk => by unfold amAt; rw [if_pos (by omega)]), HC.out, HG.out⟩
end

section
open Go Go.RowKit Go.Shelf
attribute [local go_sem] Oper.semAt_some

set_option maxRecDepth 100000 in
set_option maxHeartbeats 4000000 in
theorem atMost_stay (B x y : Nat) (b : Int) (D : Mat) (pv : Value) (vs : Array Value) (w : World) (hC : Cel w B 134 vs) (hV : LvV vs pv D) (hx : x < 49) (hy : y < 49)
    (h1 : D x y ≤ b) :
    Calls Tryz.prog 122 #[.pointer (some ⟨B, 0, none⟩), .int .i64 x, .int .i64 y, .int .i64 b] w fun e w' =>
      e = .returned (.tuple #[]) ∧ w' = w := by
  have hxi : (x : Int) < 49 := by omega
  have hyi : (y : Int) < 49 := by omega
  have c1 := hC.cell _ _ (hV.2.2 x y hx hy)
  clear hV hC
  go_enter Tryz.func122, Tryz.ntmps122
  go_step3
  go_wp2
  rw [Exit.noGoto_ret]
  first
    | exact ⟨rfl, rfl⟩
    | (go_end0; exact ⟨rfl, rfl⟩)
    | (refine bodyPost_ret (results_none rfl _ _ _) rfl ?_; exact ⟨rfl, rfl⟩)
/-- What atMost throws. -/
def contraryE : List PanicEntry := [{ v := .iface 191 (.agg #[]), recovered := false }]
set_option maxRecDepth 100000 in
set_option maxHeartbeats 4000000 in
theorem atMost_throw (B x y : Nat) (b : Int) (D : Mat) (pv : Value) (vs : Array Value) (w : World) (hC : Cel w B 134 vs) (hV : LvV vs pv D) (hD : DBd D) (hx : x < 49) (hy : y < 49) (hb : -8100 ≤ b ∧ b ≤ 8100)
    (h1 : ¬ D x y ≤ b) (h2 : D y x + b < 0) :
    Calls Tryz.prog 122 #[.pointer (some ⟨B, 0, none⟩), .int .i64 x, .int .i64 y, .int .i64 b] w fun e w' =>
      e = .panicked contraryE ∧ w' = w := by
  have hxi : (x : Int) < 49 := by omega
  have hyi : (y : Int) < 49 := by omega
  have c1 := hC.cell _ _ (hV.2.2 x y hx hy)
  have c2 := hC.cell _ _ (hV.2.2 y x hy hx)
  obtain ⟨b1, b2⟩ := hb
  have d1 := hD x y hx hy
  have d2 := hD y x hy hx
  have hw1 : IntKind.i64.wrap (D y x + b) = D y x + b := IntWalk.i64_in _ (by omega)
  clear hV hC hD
  go_enter Tryz.func122, Tryz.ntmps122
  go_step3
  go_wp2
  exact ⟨rfl, rfl, rfl⟩
/-- What atMost does. -/
def AmP (B : Nat) (pv : Value) (w : World) (r : Option Mat) (e : Ending) (w' : World) : Prop :=
  (r = none ∧ e = .panicked contraryE ∧ w' = w) ∨ ∃ D' vs', r = some D' ∧ e = .returned (.tuple #[]) ∧ LvV vs' pv D' ∧ Cel w' B 134 vs' ∧ w.grownBy w' (some B)
theorem atMost_any (B x y : Nat) (b : Int) (D : Mat) (pv : Value) (vs : Array Value) (w : World) (hC : Cel w B 134 vs) (hV : LvV vs pv D) (hD : DBd D) (hx : x < 49) (hy : y < 49) (hb : -8100 ≤ b ∧ b ≤ 8100) :
    Calls Tryz.prog 122 #[.pointer (some ⟨B, 0, none⟩), .int .i64 x, .int .i64 y, .int .i64 b] w (AmP B pv w (am D x y b)) := by
  by_cases h1 : D x y ≤ b
  · refine (atMost_stay B x y b D pv vs w hC hV hx hy h1).mono ?_
    rintro e w' ⟨rfl, rfl⟩
    right
    exact ⟨D, vs, by unfold am; rw [if_pos h1], rfl, hV, hC, World.grownBy.refl _ _⟩
  · by_cases h2 : D y x + b < 0
    · refine (atMost_throw B x y b D pv vs w hC hV hD hx hy hb h1 h2).mono ?_
      rintro e w' ⟨rfl, rfl⟩
      left
      exact ⟨by unfold am; rw [if_neg h1, if_pos h2], rfl, rfl⟩
    · refine (atMost_take B x y b D pv vs w hC hV hD hx hy hb h1 (by omega)).mono ?_
      rintro e w' ⟨rfl, vs', k1, k2, k3⟩
      right
      exact ⟨_, vs', by unfold am; rw [if_neg h1, if_neg h2], rfl, k1, k2, k3⟩
end

section
open Go Go.RowKit Go.Shelf
attribute [local go_sem] Oper.semAt_some

theorem atMost_some (B x y : Nat) (b : Int) (D E : Mat) (pv : Value) (vs : Array Value) (w : World) (hC : Cel w B 134 vs) (hV : LvV vs pv D) (hD : DBd D) (hx : x < 49) (hy : y < 49) (hb : -8100 ≤ b ∧ b ≤ 8100) (he : am D x y b = some E) :
    Calls Tryz.prog 122 #[.pointer (some ⟨B, 0, none⟩), .int .i64 x, .int .i64 y, .int .i64 b] w fun e w' => e = .returned (.tuple #[]) ∧ ∃ vs', LvV vs' pv E ∧ Cel w' B 134 vs' ∧ w.grownBy w' (some B) := by
  refine (atMost_any B x y b D pv vs w hC hV hD hx hy hb).mono ?_
  rw [he]
  rintro e w' (⟨h, _⟩ | ⟨D', vs', h, rfl, h1, h2, h3⟩)
  · cases h
  · cases h
    exact ⟨rfl, vs', h1, h2, h3⟩
theorem bornE_dbd (p a c : Nat) : DBd (bornE p a c) := fun i k _ _ => by have := bornE_bd p a c i k; omega
/-- The distances while they are filled. -/
def fillE (r c : Nat) : Mat := fun i k => if (i < r ∨ (i = r ∧ k < c)) ∧ i ≠ k then 1099511627776 else 0
theorem fillE_set (r c : Nat) (h : r ≠ c) (i k : Nat) : fillE r (c + 1) i k = if i = r ∧ k = c then 1099511627776 else fillE r c i k := by
  unfold fillE
  by_cases e : i = r ∧ k = c
  · obtain ⟨rfl, rfl⟩ := e
    rw [if_pos ⟨.inr ⟨rfl, by omega⟩, h⟩, if_pos ⟨rfl, rfl⟩]
  · rw [if_neg e]
    by_cases q : (i < r ∨ (i = r ∧ k < c)) ∧ i ≠ k
    · rw [if_pos q, if_pos ⟨by omega, q.2⟩]
    · rw [if_neg q, if_neg (fun z => q ⟨by omega, z.2⟩)]
theorem fillE_keep (r : Nat) (i k : Nat) : fillE r (r + 1) i k = fillE r r i k := by
  unfold fillE
  by_cases q : (i < r ∨ (i = r ∧ k < r)) ∧ i ≠ k
  · rw [if_pos q, if_pos ⟨by omega, q.2⟩]
  · rw [if_neg q, if_neg (fun z => q ⟨by omega, z.2⟩)]
theorem fillE_row (r : Nat) (i k : Nat) (hk : k < 49) : fillE (r + 1) 0 i k = fillE r 49 i k := by
  unfold fillE
  by_cases q : (i < r ∨ (i = r ∧ k < 49)) ∧ i ≠ k
  · rw [if_pos q, if_pos ⟨by omega, q.2⟩]
  · rw [if_neg q, if_neg (fun z => q ⟨by omega, z.2⟩)]
theorem fillE_end (i k : Nat) (hi : i < 49) : bornE 0 0 0 i k = fillE 49 0 i k := by
  by_cases e : i = k
  · subst e
    rw [bornE_self]
    unfold fillE
    rw [if_neg (fun z => z.2 rfl)]
  · rw [bornE_out e (by omega)]
    unfold fillE
    rw [if_pos ⟨by omega, e⟩]
/-- Is a value the number 0? -/
def nought : Value → Bool
  | .int .i64 n => n == 0
  | _ => false
theorem nought_eq {v : Value} (h : nought v = true) : v = .int .i64 0 := by
  unfold nought at h
  split at h
  · rw [beq_iff_eq.1 h]
  · cases h
set_option maxRecDepth 100000 in
theorem zeroC_all : (Tryz.zeroCells134.toList.drop 1).all nought = true := by kernel_rfl
theorem zeroC_get {j : Nat} (h1 : 1 ≤ j) (h2 : j < 2402) : Tryz.zeroCells134[j]? = some (.int .i64 0) := by
  have hs : Tryz.zeroCells134.size = 2402 := Tryz.zeroCells134_size
  have hj : j < Tryz.zeroCells134.size := by omega
  have hm : Tryz.zeroCells134[j] ∈ Tryz.zeroCells134.toList.drop 1 := by
    rw [List.mem_iff_getElem?]
    refine ⟨j - 1, ?_⟩
    rw [List.getElem?_drop, show 1 + (j - 1) = j by omega]
    simp
  rw [Array.getElem?_eq_getElem hj, nought_eq (List.all_eq_true.1 zeroC_all _ hm)]
theorem bornC_lv (pv : Value) : LvV (Tryz.zeroCells134.setIfInBounds 0 pv) pv (fillE 0 0) := by
  have hs : Tryz.zeroCells134.size = 2402 := Tryz.zeroCells134_size
  refine ⟨by simp [hs], by simp [hs], fun i k hi hk => ?_⟩
  have e : fillE 0 0 i k = 0 := by unfold fillE; rw [if_neg (by omega)]
  rw [e, Array.getElem?_setIfInBounds, if_neg (by omega)]
  exact zeroC_get (by omega) (by omega)

set_option maxRecDepth 100000 in
set_option maxHeartbeats 4000000 in
theorem born_any (A : Option Addr) (n C : Nat) (w : World) (hn : n ≤ 24) :
    Calls Tryz.prog 99 #[.slice A n C] w fun e w' =>
      e = .returned (.pointer (some ⟨w.heap.size, 0, none⟩)) ∧ Below w.heap.size w w' ∧ ∃ vs, LvV vs (.slice A n C) (bornE n 0 0) ∧ Cel w' w.heap.size 134 vs := by
  go_enter Tryz.func99, Tryz.ntmps99
  go_wp2
  have HL0 := Lib.hid (bornC_lv (.slice A n C))
  have HC0 := Lib.hid (Cel.new w 134 (Tryz.zeroCells134.setIfInBounds 0 (.slice A n C)))
  have HB0 := Lib.hid (below_alloc' w (.cells (Tryz.zeroCells134.setIfInBounds 0 (.slice A n C)) 134))
  generalize w.alloc (.cells (Tryz.zeroCells134.setIfInBounds 0 (.slice A n C)) 134) = W at *
  generalize Tryz.zeroCells134.setIfInBounds 0 (.slice A n C) = cs at *
  obtain ⟨B, hB⟩ : ∃ B, w.heap.size = B := ⟨_, rfl⟩
  rw [hB] at HC0 HB0 ⊢
  have HBq := Lib.hid hB
  clear hB
  go_loopw [10] (fun ti wr => ∃ (r : Nat) (us : Array Value), ti = .int .i64 r ∧ r ≤ 49 ∧ Hid (LvV us (.slice A n C) (fillE r 0)) ∧ Hid (Cel wr B 134 us) ∧ Hid (Below B w wr)) (fun ti _ => 49 - (intOf ti).toNat)
  case atStart => exact ⟨0, cs, rfl, by omega, HL0.out, HC0.out, HB0.out⟩
  case round =>
    clear HL0 HC0 HB0
    obtain ⟨r, us, rfl, hr, HL, HC, HB⟩ := hrel
    by_cases hlt : r < 49
    · have hri : (r : Int) < 49 := by omega
      go_wp2
      go_loopw [13] (fun ti wi => ∃ (c : Nat) (us : Array Value), ti = .int .i64 c ∧ c ≤ 49 ∧ Hid (LvV us (.slice A n C) (fillE r c)) ∧ Hid (Cel wi B 134 us) ∧ Hid (Below B w wi)) (fun ti _ => 49 - (intOf ti).toNat)
      case atStart => exact ⟨0, us, rfl, by omega, HL, HC, HB⟩
      case round =>
        clear HL HC HB
        obtain ⟨c, vs, rfl, hc, HL, HC, HB⟩ := hrel
        by_cases hlc : c < 49
        · have hci : (c : Int) < 49 := by omega
          have k3 := HC.out.cell _ _ (HL.out.2.2 r c hlt hlc)
          have hz := HC.out.frozen (1 + r * 49 + c)
          by_cases hrc : r = c
          · subst hrc
            have hq : ((r : Int) != (r : Int)) = false := by simp
            go_wp2
            go_roundw
            case rel => exact ⟨r + 1, vs, by go_num, by omega, HL.out.same (fun i k _ _ => fillE_keep r i k), HC.out, HB.out⟩
            case measure => simp [intOf]; omega
          · have hq : ((r : Int) != (c : Int)) = true := by simp; omega
            have HN := Lib.hid hrc
            clear hrc
            go_wp2
            go_roundw
            case rel => exact ⟨c + 1, _, by go_num, by omega, HL.out.put hlt hlc (fun i k _ _ => fillE_set r c HN.out i k), HC.out.setAt _ _, HB.out.setCell (by simp) _⟩
            case measure => simp [intOf]; omega
        · have hc9 : c = 49 := by omega
          go_wp2
          refine ⟨⟨r + 1, vs, by go_num, by omega, HL.out.same (fun i k _ hk => by rw [hc9]; exact fillE_row r i k hk), HC, HB⟩, by simp [intOf]; omega⟩
    · have hr9 : r = 49 := by omega
      have HL := Lib.hid (HL.out.same (fun i k hi hk => by rw [hr9]; exact fillE_end i k hi) : LvV us (.slice A n C) (bornE 0 0 0))
      go_wp2
      clear hr9 hr hlt
      go_loopw [30] (fun ti wr => ∃ (k : Nat) (us : Array Value), ti = .int .i64 k ∧ k ≤ n ∧ Hid (LvV us (.slice A n C) (bornE k 0 0)) ∧ Hid (Cel wr B 134 us) ∧ Hid (Below B w wr)) (fun ti _ => n - (intOf ti).toNat)
      case atStart => exact ⟨0, us, rfl, by omega, HL, HC, HB⟩
      case round =>
        clear HL HC HB
        obtain ⟨k, vs, rfl, hk, HL, HC, HB⟩ := hrel
        by_cases hlk : k < n
        · have hki : (k : Int) < (n : Int) := by omega
          have e0 : ((2 * k : Nat) : Int) = 2 * (k : Int) := by omega
          have e1 : ((2 * k + 1 : Nat) : Int) = 2 * (k : Int) + 1 := by omega
          have hk24 : k < 24 := by omega
          have C1 := fun us w' h1 h2 => atMost_some B (2 * k) 48 4000 (bornE k 0 0) (bornE k 1 0) (.slice A n C) us w' h1 h2 (bornE_dbd k 0 0) (by omega) (by omega) (by omega) (born1 hk24)
          have C2 := fun us w' h1 h2 => atMost_some B 48 (2 * k) 4000 (bornE k 1 0) (bornE k 1 1) (.slice A n C) us w' h1 h2 (bornE_dbd k 1 0) (by omega) (by omega) (by omega) (born2 hk24)
          have C3 := fun us w' h1 h2 => atMost_some B (2 * k) (2 * k + 1) 0 (bornE k 1 1) (bornE k 1 2) (.slice A n C) us w' h1 h2 (bornE_dbd k 1 1) (by omega) (by omega) (by omega) (born3 hk24)
          have C4 := fun us w' h1 h2 => atMost_some B (2 * k + 1) (2 * k) 100 (bornE k 1 2) (bornE (k + 1) 0 0) (.slice A n C) us w' h1 h2 (bornE_dbd k 1 2) (by omega) (by omega) (by omega) (born4 hk24)
          simp only [e0, e1] at C1 C2 C3 C4
          have D1 := Lib.hid C1
          have D2 := Lib.hid C2
          have D3 := Lib.hid C3
          have D4 := Lib.hid C4
          clear C1 C2 C3 C4 e0 e1
          go_wp2_with fail
          refine (D1.out _ _ HC.out HL.out).mono ?_
          rintro e w1 ⟨rfl, v1, hl, hc, hg⟩
          have HL1 := Lib.hid hl
          have HC1 := Lib.hid hc
          have HB1 := Lib.hid (HB.out.grown hg (by have := HB.out.size; have := HBq.out; omega) (fun j e => by cases e; have := HBq.out; omega))
          clear hl hc hg
          go_wp2_with fail
          refine (D2.out _ _ HC1.out HL1.out).mono ?_
          rintro e w2 ⟨rfl, v2, hl, hc, hg⟩
          have HL2 := Lib.hid hl
          have HC2 := Lib.hid hc
          have HB2 := Lib.hid (HB1.out.grown hg (by have := HB1.out.size; have := HBq.out; omega) (fun j e => by cases e; have := HBq.out; omega))
          clear hl hc hg
          go_wp2_with fail
          refine (D3.out _ _ HC2.out HL2.out).mono ?_
          rintro e w3 ⟨rfl, v3, hl, hc, hg⟩
          have HL3 := Lib.hid hl
          have HC3 := Lib.hid hc
          have HB3 := Lib.hid (HB2.out.grown hg (by have := HB2.out.size; have := HBq.out; omega) (fun j e => by cases e; have := HBq.out; omega))
          clear hl hc hg
          go_wp2_with fail
          refine (D4.out _ _ HC3.out HL3.out).mono ?_
          rintro e w4 ⟨rfl, v4, hl, hc, hg⟩
          have HL4 := Lib.hid hl
          have HC4 := Lib.hid hc
          have HB4 := Lib.hid (HB3.out.grown hg (by have := HB3.out.size; have := HBq.out; omega) (fun j e => by cases e; have := HBq.out; omega))
          clear hl hc hg
          go_wp2
          go_roundw
          case rel => exact ⟨k + 1, v4, by go_num, by omega, HL4.out, HC4.out, HB4.out⟩
          case measure => simp [intOf]; omega
        · have hkn : k = n := by omega
          go_wp2
          go_ret
          rw [HBq.out]
          exact ⟨rfl, HB.out, vs, by rw [show bornE n 0 0 = bornE k 0 0 by rw [hkn]]; exact HL.out, HC.out⟩
end

section
open Go

/-- A fact. -/
structure Fa where
  kind : Int
  a : ByteArray
  b : ByteArray
  at_ : Int
/-- The place of a string in a list (its length: it isn't there). -/
def posF : List ByteArray → ByteArray → Nat
  | [], _ => 0
  | x :: l, s => if x = s then 0 else posF l s + 1
theorem posF_lt {l : List ByteArray} {s : ByteArray} (h : s ∈ l) : posF l s < l.length := by
  induction l with
  | nil => cases h
  | cons x l ih =>
    unfold posF
    by_cases e : x = s
    · rw [if_pos e]; simp
    · rw [if_neg e]
      have := ih (by simpa [Ne.symm e] using h)
      simp only [List.length_cons]; omega
theorem posF_get {l : List ByteArray} {s : ByteArray} (h : s ∈ l) : l[posF l s]? = some s := by
  induction l with
  | nil => cases h
  | cons x l ih =>
    unfold posF
    by_cases e : x = s
    · rw [if_pos e]; simp [e]
    · rw [if_neg e]
      have := ih (by simpa [Ne.symm e] using h)
      simpa using this
theorem posF_no {l : List ByteArray} {s : ByteArray} (h : ¬ s ∈ l) : posF l s = l.length := by
  induction l with
  | nil => rfl
  | cons x l ih =>
    unfold posF
    rw [if_neg (fun e => h (by simp [e])), ih (fun q => h (by simp [q]))]
    rfl
theorem posF_first {l : List ByteArray} {s : ByteArray} {j : Nat} (hj : j < posF l s) : l[j]? ≠ some s := by
  induction l generalizing j with
  | nil => exact absurd hj (Nat.not_lt_zero _)
  | cons x l ih =>
    unfold posF at hj
    by_cases e : x = s
    · rw [if_pos e] at hj; exact absurd hj (Nat.not_lt_zero _)
    · rw [if_neg e] at hj
      cases j with
      | zero => simpa using e
      | succ j => simpa using ih (j := j) (by omega)
theorem posF_eq {l : List ByteArray} {s : ByteArray} {k : Nat} (hk : l[k]? = some s) (h : ∀ j, j < k → l[j]? ≠ some s) : posF l s = k := by
  have hm : s ∈ l := List.mem_of_getElem? hk
  rcases Nat.lt_trichotomy (posF l s) k with q | q | q
  · exact absurd (posF_get hm) (h _ q)
  · exact q
  · exact absurd hk (posF_first q)
theorem posF_inj {l : List ByteArray} {s t : ByteArray} (hs : s ∈ l) (ht : t ∈ l) (e : posF l s = posF l t) : s = t := by
  have a := posF_get hs
  have b := posF_get ht
  rw [e, b] at a
  exact (Option.some.inj a).symm
def memB (l : List ByteArray) (s : ByteArray) : Bool := decide (posF l s < l.length)
theorem memB_iff {l : List ByteArray} {s : ByteArray} : memB l s = true ↔ s ∈ l := by
  unfold memB
  rw [decide_eq_true_eq]
  constructor
  · intro h
    apply Classical.byContradiction
    intro q
    rw [posF_no q] at h
    exact Nat.lt_irrefl _ h
  · exact posF_lt
theorem memB_no {l : List ByteArray} {s : ByteArray} : memB l s = false ↔ ¬ s ∈ l := by
  rw [← memB_iff, Bool.not_eq_true]
def pairB (k : Int) : Bool := decide (1 ≤ k ∧ k ≤ 3)
/-- Is the fact a valid one about these people? -/
def aboutB (ps : List ByteArray) (f : Fa) : Bool :=
  decide (1 ≤ f.kind ∧ f.kind ≤ 7) && memB ps f.a && (if pairB f.kind then decide (f.b ≠ f.a) && memB ps f.b && decide (f.at_ = 0) else decide (f.b = ByteArray.empty) && decide (-1000 ≤ f.at_ ∧ f.at_ ≤ 1000))
/-- The bounds of a valid fact. -/
def boundsF (ps : List ByteArray) (f : Fa) : List Bo :=
  if f.kind = 1 then [⟨2 * posF ps f.b, 2 * posF ps f.a, -12⟩, ⟨2 * posF ps f.a, 2 * posF ps f.b, 80⟩, ⟨2 * posF ps f.a, 2 * posF ps f.b + 1, 1⟩]
  else if f.kind = 2 then [⟨2 * posF ps f.a, 2 * posF ps f.b, 40⟩, ⟨2 * posF ps f.b, 2 * posF ps f.a, 40⟩]
  else if f.kind = 3 then [⟨2 * posF ps f.a, 2 * posF ps f.b, 0⟩]
  else if f.kind = 4 then [⟨2 * posF ps f.a, 48, f.at_⟩, ⟨48, 2 * posF ps f.a, -f.at_⟩]
  else if f.kind = 5 then [⟨2 * posF ps f.a, 48, f.at_ - 10⟩, ⟨48, 2 * posF ps f.a + 1, -f.at_⟩]
  else if f.kind = 6 then [⟨2 * posF ps f.a, 48, f.at_⟩, ⟨48, 2 * posF ps f.a + 1, -f.at_⟩]
  else [⟨2 * posF ps f.a + 1, 48, f.at_⟩]
theorem aboutB_iff {ps : List ByteArray} {f : Fa} : aboutB ps f = true ↔ (1 ≤ f.kind ∧ f.kind ≤ 7) ∧ f.a ∈ ps ∧ (f.kind ≤ 3 → f.b ≠ f.a ∧ f.b ∈ ps ∧ f.at_ = 0) ∧ (¬ f.kind ≤ 3 → f.b = ByteArray.empty ∧ -1000 ≤ f.at_ ∧ f.at_ ≤ 1000) := by
  unfold aboutB pairB
  by_cases e : 1 ≤ f.kind ∧ f.kind ≤ 3
  · rw [decide_eq_true e, if_pos rfl]
    simp only [Bool.and_eq_true, decide_eq_true_eq, memB_iff]
    constructor
    · rintro ⟨⟨h1, h2⟩, ⟨h3, h4⟩, h5⟩; exact ⟨h1, h2, fun _ => ⟨h3, h4, h5⟩, fun q => absurd e.2 q⟩
    · rintro ⟨h1, h2, h3, _⟩; exact ⟨⟨h1, h2⟩, ⟨(h3 e.2).1, (h3 e.2).2.1⟩, (h3 e.2).2.2⟩
  · rw [decide_eq_false e, if_neg (by decide)]
    simp only [Bool.and_eq_true, decide_eq_true_eq, memB_iff]
    constructor
    · rintro ⟨⟨h1, h2⟩, h3, h4⟩; exact ⟨h1, h2, fun q => absurd ⟨h1.1, q⟩ e, fun _ => ⟨h3, h4⟩⟩
    · rintro ⟨h1, h2, _, h3⟩; exact ⟨⟨h1, h2⟩, h3 (fun q => e ⟨h1.1, q⟩)⟩
theorem boundsF_in {ps : List ByteArray} {f : Fa} (h : aboutB ps f = true) : InL ps.length (boundsF ps f) := by
  obtain ⟨h1, h2, h3, h4⟩ := aboutB_iff.1 h
  have ha := posF_lt h2
  have i0 : ∀ s, s ∈ ps → In ps.length (2 * posF ps s) := fun s hs => .inl (by have := posF_lt hs; omega)
  have i1 : ∀ s, s ∈ ps → In ps.length (2 * posF ps s + 1) := fun s hs => .inl (by have := posF_lt hs; omega)
  have o := In.org ps.length
  unfold boundsF
  intro q hq
  split at hq
  · next e =>
    obtain ⟨_, hb, _⟩ := h3 (by omega)
    simp only [List.mem_cons, List.not_mem_nil, or_false] at hq
    rcases hq with rfl | rfl | rfl <;> exact ⟨by first | exact i0 _ h2 | exact i0 _ hb, by first | exact i0 _ h2 | exact i0 _ hb | exact i1 _ hb⟩
  · split at hq
    · obtain ⟨_, hb, _⟩ := h3 (by omega)
      simp only [List.mem_cons, List.not_mem_nil, or_false] at hq
      rcases hq with rfl | rfl <;> exact ⟨by first | exact i0 _ h2 | exact i0 _ hb, by first | exact i0 _ h2 | exact i0 _ hb⟩
    · split at hq
      · obtain ⟨_, hb, _⟩ := h3 (by omega)
        simp only [List.mem_cons, List.not_mem_nil, or_false] at hq
        subst hq
        exact ⟨i0 _ h2, i0 _ hb⟩
      · split at hq
        · simp only [List.mem_cons, List.not_mem_nil, or_false] at hq
          rcases hq with rfl | rfl <;> exact ⟨by first | exact i0 _ h2 | exact o, by first | exact i0 _ h2 | exact o⟩
        · split at hq
          · simp only [List.mem_cons, List.not_mem_nil, or_false] at hq
            rcases hq with rfl | rfl <;> exact ⟨by first | exact i0 _ h2 | exact o, by first | exact i1 _ h2 | exact o⟩
          · split at hq
            · simp only [List.mem_cons, List.not_mem_nil, or_false] at hq
              rcases hq with rfl | rfl <;> exact ⟨by first | exact i0 _ h2 | exact o, by first | exact i1 _ h2 | exact o⟩
            · simp only [List.mem_cons, List.not_mem_nil, or_false] at hq
              subst hq
              exact ⟨i1 _ h2, o⟩
/-- How great the number of a bound is. -/
def SmallL (l : List Bo) : Prop := ∀ b ∈ l, -1010 ≤ b.by_ ∧ b.by_ ≤ 1000
theorem boundsF_small {ps : List ByteArray} {f : Fa} (h : aboutB ps f = true) : SmallL (boundsF ps f) := by
  obtain ⟨h1, h2, h3, h4⟩ := aboutB_iff.1 h
  unfold boundsF
  intro q hq
  by_cases e : f.kind ≤ 3
  · rcases (show f.kind = 1 ∨ f.kind = 2 ∨ f.kind = 3 by omega) with k | k | k <;> simp [k] at hq
    · rcases hq with rfl | rfl | rfl <;> simp
    · rcases hq with rfl | rfl <;> simp
    · subst hq; simp
  · obtain ⟨_, h5, h6⟩ := h4 e
    rw [if_neg (by omega), if_neg (by omega), if_neg (by omega)] at hq
    repeat' split at hq
    all_goals
      simp only [List.mem_cons, List.not_mem_nil, or_false] at hq
      first
        | (rcases hq with rfl | rfl <;> (simp only; omega))
        | (subst hq; simp only; omega)
/-- The distances of a network. -/
def solveF (ps : List ByteArray) (fs : List Fa) : Option Mat := amL (bornE ps.length 0 0) (fs.flatMap (boundsF ps))
theorem amL_append (D : Mat) (l m : List Bo) : amL D (l ++ m) = (amL D l).bind (fun E => amL E m) := by
  induction l generalizing D with
  | nil => rfl
  | cons b l ih =>
    simp only [List.cons_append, amL]
    cases am D b.x b.y b.by_ with
    | none => rfl
    | some E => exact ih E
def AllAbout (ps : List ByteArray) (fs : List Fa) : Prop := ∀ f ∈ fs, aboutB ps f = true
theorem allIn {ps : List ByteArray} {fs : List Fa} (h : AllAbout ps fs) : InL ps.length (fs.flatMap (boundsF ps)) := by
  intro b hb
  obtain ⟨f, hf, hb⟩ := List.mem_flatMap.1 hb
  exact boundsF_in (h f hf) b hb
theorem solveF_good {ps : List ByteArray} {fs : List Fa} {D : Mat} (hp : ps.length ≤ 24) (h : AllAbout ps fs) (e : solveF ps fs = some D) : Good ps.length D :=
  (amL_some (born_good hp) (allIn h) e).1
theorem solveF_snoc (ps : List ByteArray) (fs : List Fa) (f : Fa) : solveF ps (fs ++ [f]) = (solveF ps fs).bind (fun D => amL D (boundsF ps f)) := by
  unfold solveF
  rw [List.flatMap_append, amL_append]
  simp
theorem solveF_none_append {ps : List ByteArray} {fs gs : List Fa} (h : solveF ps fs = none) : solveF ps (fs ++ gs) = none := by
  unfold solveF at *
  rw [List.flatMap_append, amL_append, h]
  rfl
/-- The years that keep all bounds of a network. -/
def SolN (ps : List ByteArray) (fs : List Fa) (t : Nat → Int) : Prop := Sol ps.length (bornE ps.length 0 0) t ∧ Sat t (fs.flatMap (boundsF ps))
theorem solveF_sol {ps : List ByteArray} {fs : List Fa} {D : Mat} (hp : ps.length ≤ 24) (h : AllAbout ps fs) (e : solveF ps fs = some D) (t : Nat → Int) : Sol ps.length D t ↔ SolN ps fs t :=
  (amL_some (born_good hp) (allIn h) e).2 t
theorem solveF_no {ps : List ByteArray} {fs : List Fa} (hp : ps.length ≤ 24) (h : AllAbout ps fs) (e : solveF ps fs = none) (t : Nat → Int) : ¬ SolN ps fs t :=
  fun q => amL_none (born_good hp) (allIn h) e t q.1 q.2
end
end Go.Proofs.YtdmcopjbckelmaaGreatDoor
