/- Small words on memory, over any program: a slice that reads as a list of cells (nil let in), an append onto a row of the call's own, blocks known whole, growth. No condition. The walks of the small functions on numbers and names (size, common, need, first, IsName) of metro and of its reference. No condition but the kinds' own bounds. Plain laws, no program in sight: products of lists of numbers, their quotients as rational numbers, and the cancelling of pairs. The library's own contract of math/bits.Mul64, at this program's numbers; the element types' rows of the tables; appends onto rows of uint64. The walks of metro's products of numbers: trimmed, within, reduced, times, turned, one, ratio. Conditions: the factors are from 1 below 2 to the 64, and lists are not too long to be copied. The walk of metro's reduced: every pair of factors is cancelled, the factors 1 are struck. Condition: the factors are from 1 below 2 to the 64, and the lists are not too long to be copied. The walks of metro's times, turned, one. Conditions: factors from 1 below 2 to the 64, lists not too long to be copied. -/
import Derived.WalkKit
import Derived.WalkLawsBesides
import Derived.WalkSpells
import Derived.Lib.Hide
import Derived.Deep.Draws
import Derived.Deep.AppendLies
import Derived.Maps.AppendAt
import Derived.Outline
import Derived.BigQuiet
import Derived.Deep.QuietTactic
import Derived.Deep.RegionHeld3
import Derived.Deep.DrawnRows
import Derived.Deep.DeepCutAuto
import Derived.Deep.DeepFit
import Derived.Test.YtmibpncmebhbjaaDoorProg
import Derived.Shelf.Bits.Mul64
namespace Go.Proofs.YtmibpncmebhbjaaDoor
section
open Go Go.RowKit

/-- The slice value v (elements of s cells) reads as the cells xs. -/
def Sl (w : World) (s : Nat) (v : Value) (xs : List Value) : Prop :=
  ∃ A n c, v = .slice A n c ∧ xs.length = n * s ∧ n ≤ c ∧ (c : Int) ≤ 9223372036854775807 ∧ (0 < n → ∃ ad, A = some ad ∧ ∀ j u, xs[j]? = some u → w.cell? (ad.add j) = some u)

theorem block_add (a : Addr) (n : Nat) : (a.add n).block = a.block := by unfold Addr.add; split <;> rfl
theorem add_add (a : Addr) (i j : Nat) : (a.add i).add j = a.add (i + j) := by
  unfold Addr.add
  by_cases hi : i = 0 <;> by_cases hj : j = 0 <;> simp [hi, hj, Nat.add_assoc]
theorem add_zero' (a : Addr) : a.add 0 = a := rfl

theorem below_drewN {B : Nat} {a w : World} (h : Below B a w) (n : Nat) : Below B a (w.drewN n) := ⟨h.os, h.tape, h.output, h.size, h.block⟩
theorem below_drewN' (w : World) (n : Nat) : Below w.heap.size w (w.drewN n) := below_drewN (Below.refl _ _) n
theorem below_alloc' (w : World) (o : Obj) : Below w.heap.size w (w.alloc o) := (Below.refl _ _).alloc (Nat.le_refl _) _
/-- Two steps, each keeping what lay when it began. -/
theorem below_then {a b c : World} (h : Below a.heap.size a b) (k : Below b.heap.size b c) : Below a.heap.size a c := h.trans (k.mono h.size)
theorem below_cell {a b : World} (h : Below a.heap.size a b) {p : Addr} {v : Value} (hc : a.cell? p = some v) : b.cell? p = some v := (h.cell (block_lt_of_cell hc)).trans hc
theorem below_grown {a b : World} {row : Option Nat} (h : a.grownBy b row) (hr : ∀ g, row = some g → a.heap.size ≤ g) : Below a.heap.size a b :=
  ⟨h.os, h.tape, h.output, h.size, fun k hk => h.block k hk (fun e => by have := hr k e.symm; omega)⟩
theorem grown_of_below {a w : World} (h : Below a.heap.size a w) (row : Option Nat) : a.grownBy w row := ⟨h.os, h.tape, h.output, h.size, fun i hi _ => h.block i hi⟩
theorem grown_undrew {a b : World} {row : Option Nat} (h : a.drew.grownBy b row) : a.grownBy b row := ⟨h.os, h.tape, h.output, h.size, h.block⟩
theorem grown_refl (w : World) (row : Option Nat) : w.grownBy w row := ⟨rfl, rfl, rfl, Nat.le_refl _, fun _ _ _ => rfl⟩

section
variable {w w' : World} {s : Nat} {v : Value} {xs : List Value}
theorem Sl.keep (h : Sl w s v xs) (hk : ∀ p u, w.cell? p = some u → w'.cell? p = some u) : Sl w' s v xs := by
  obtain ⟨A, n, c, rfl, hl, hc, hm, hcell⟩ := h
  exact ⟨A, n, c, rfl, hl, hc, hm, fun hn => by
    obtain ⟨ad, e, hc⟩ := hcell hn
    exact ⟨ad, e, fun j u hu => hk _ _ (hc j u hu)⟩⟩
theorem Sl.below (h : Sl w s v xs) (hb : Below w.heap.size w w') : Sl w' s v xs := h.keep fun _ _ hc => below_cell hb hc
theorem Sl.drewN (h : Sl w s v xs) (n : Nat) : Sl (w.drewN n) s v xs := h
theorem Sl.drew (h : Sl w s v xs) : Sl w.drew s v xs := h
theorem Sl.alloc (h : Sl w s v xs) (o : Obj) : Sl (w.alloc o) s v xs := h.below (below_alloc' w o)
/-- A store into a cell that holds what is no element. -/
theorem Sl.setCell (h : Sl w s v xs) {p : Addr} {old : Value} (hp : w.cell? p = some old) (hne : ∀ u ∈ xs, u ≠ old) (x : Value) : Sl (w.setCell p x) s v xs := by
  obtain ⟨A, n, c, rfl, hl, hc, hm, hcell⟩ := h
  refine ⟨A, n, c, rfl, hl, hc, hm, fun hn => ?_⟩
  obtain ⟨ad, e, hc⟩ := hcell hn
  refine ⟨ad, e, fun j u hu => ?_⟩
  have h1 := hc j u hu
  rw [World.cell?_setCell_other]
  · exact h1
  · rintro rfl
    rw [hp] at h1
    injection h1 with h1
    exact hne u (List.mem_of_getElem? hu) h1.symm
theorem Sl.nil (w : World) (s c : Nat) (h : (c : Int) ≤ 9223372036854775807) : Sl w s (.slice none 0 c) [] := ⟨none, 0, c, rfl, by simp, by omega, h, fun h => absurd h (by omega)⟩
theorem Sl.nil0 (w : World) (s : Nat) : Sl w s (.slice none 0 0) [] := Sl.nil w s 0 (by omega)
theorem Sl.of_own {base : Nat} {e : TypeId} {n : Nat} (h : w.ownsRow base e s v n xs) : Sl w s v xs := by
  obtain ⟨hl, ⟨rfl, rfl⟩ | ⟨g, cap, cur, rfl, hb, hh, hnc, hcm, hs, ht⟩⟩ := h
  · have : xs = [] := List.eq_nil_of_length_eq_zero (by simpa using hl)
    subst this
    exact Sl.nil0 w s
  · have hown : w.ownsRow base e s (.slice (some ⟨g, 0, none⟩) n cap) n xs := ⟨hl, .inr ⟨g, cap, cur, rfl, hb, hh, hnc, hcm, hs, ht⟩⟩
    exact ⟨_, n, cap, rfl, hl, hnc, by unfold maxLen at hcm; omega, fun _ => ⟨_, rfl, hown.cells (g := g) rfl⟩⟩
/-- A literal's row: a new block whose first cells are the elements. -/
theorem Sl.new (w : World) (t : TypeId) (n c : Nat) (cs : Array Value) (hl : cs.size = n * s) (hc : n ≤ c) (hm : (c : Int) ≤ 9223372036854775807) :
    Sl (w.alloc (.cells cs t)) s (.slice (some ⟨w.heap.size, 0, none⟩) n c) cs.toList :=
  ⟨_, n, c, rfl, by simpa using hl, hc, hm, fun _ => ⟨_, rfl, fun j u hu => by
    have : (⟨w.heap.size, 0, none⟩ : Addr).add j = ⟨w.heap.size, j, none⟩ := by unfold Addr.add; split <;> simp_all
    rw [this, World.cell?_alloc_new]
    simpa using hu⟩⟩
end

/-- The shape of a slice's value, and the rest kept. -/
theorem Sl.shape {w : World} {s : Nat} {v : Value} {xs : List Value} (h : Sl w s v xs) : ∃ A n c, v = .slice A n c ∧ Sl w s (.slice A n c) xs := by
  obtain ⟨A, n, c, rfl, r⟩ := h
  exact ⟨A, n, c, rfl, A, n, c, rfl, r⟩
/-- What a slice of one-cell elements is when the walk asks. -/
theorem Sl.open1 {w : World} {v : Value} {xs : List Value} (h : Sl w 1 v xs) : ∃ A c, v = .slice A xs.length c ∧ xs.length ≤ c ∧ (c : Int) ≤ 9223372036854775807 ∧ (∀ k u, xs[k]? = some u → ∃ ad, A = some ad ∧ w.cell? (ad.add k) = some u) := by
  obtain ⟨A, n, c, rfl, hl, hc, hm, hcell⟩ := h
  have : xs.length = n := by omega
  subst this
  exact ⟨A, c, rfl, hc, hm, fun k u hu => by
    have hk : k < xs.length := by
      rcases Nat.lt_or_ge k xs.length with h | h
      · exact h
      · rw [List.getElem?_eq_none h] at hu; cases hu
    obtain ⟨ad, e, hc⟩ := hcell (by omega)
    exact ⟨ad, e, hc k u hu⟩⟩

/-- A slice of elements of s cells, its address written out. -/
theorem Sl.open2 {w : World} {s : Nat} {v : Value} {xs : List Value} (h : Sl w s v xs) (hs : 0 < s) : ∃ A n c, v = .slice A n c ∧ xs.length = n * s ∧ n ≤ c ∧ (c : Int) ≤ 9223372036854775807 ∧
    (0 < n → ∃ b o, A = some ⟨b, o, none⟩ ∧ b < w.heap.size ∧ ∀ j u, xs[j]? = some u → w.cell? ⟨b, o + j, none⟩ = some u) := by
  obtain ⟨A, n, c, rfl, hl, hc, hm, hcell⟩ := h
  refine ⟨A, n, c, rfl, hl, hc, hm, fun hn => ?_⟩
  obtain ⟨ad, rfl, hcl⟩ := hcell hn
  have h0 : 0 < xs.length := by rw [hl]; exact Nat.mul_pos hn hs
  obtain ⟨u, hu⟩ : ∃ u, xs[0]? = some u := ⟨xs[0], by simp [h0]⟩
  have hu' := hcl 0 u hu
  have hsp : ad.spot = none := by
    rw [add_zero'] at hu'
    unfold World.cell? at hu'
    split at hu'
    · by_cases hs : ad.spot.isSome
      · simp [hs] at hu'
      · simpa using hs
    · cases hu'
  obtain ⟨b, o, sp⟩ := ad
  simp only at hsp
  subst hsp
  have hb := block_lt_of_cell hu'
  rw [block_add] at hb
  refine ⟨b, o, rfl, hb, fun j u hj => ?_⟩
  have := hcl j u hj
  rwa [show (⟨b, o, none⟩ : Addr).add j = ⟨b, o + j, none⟩ from by unfold Addr.add; split <;> simp_all] at this

/-- An owned row is a slice of n elements. -/
theorem own_slice {w : World} {base : Nat} {e : TypeId} {size n : Nat} {v : Value} {xs : List Value} (h : w.ownsRow base e size v n xs) :
    ∃ A c, v = .slice A n c ∧ n ≤ c ∧ (c : Int) ≤ 9223372036854775807 ∧ (0 < n → ∃ g, A = some ⟨g, 0, none⟩ ∧ base ≤ g ∧ g < w.heap.size) := by
  obtain ⟨hl, ⟨rfl, rfl⟩ | ⟨g, cap, cur, rfl, hb, hh, hnc, hcm, hs, ht⟩⟩ := h
  · exact ⟨none, 0, rfl, by omega, by omega, fun h => absurd h (by omega)⟩
  · refine ⟨some ⟨g, 0, none⟩, cap, rfl, hnc, by unfold maxLen at hcm; omega, fun _ => ⟨g, rfl, hb, ?_⟩⟩
    rcases Nat.lt_or_ge g w.heap.size with h | h
    · exact h
    · rw [Array.getElem?_eq_none h] at hh; cases hh

theorem own_shape {w : World} {base : Nat} {e : TypeId} {size n : Nat} {v : Value} {xs : List Value} (h : w.ownsRow base e size v n xs) : ∃ A c, v = .slice A n c ∧ w.ownsRow base e size (.slice A n c) n xs := by
  obtain ⟨A, c, rfl, _⟩ := own_slice h
  exact ⟨A, c, rfl, h⟩
theorem own_below {w w' : World} {base : Nat} {e : TypeId} {size n : Nat} {v : Value} {xs : List Value} (h : w.ownsRow base e size v n xs) (hb : Below w.heap.size w w') : w'.ownsRow base e size v n xs := by
  obtain ⟨hl, ⟨rfl, rfl⟩ | ⟨g, cap, cur, rfl, hg, hh, r⟩⟩ := h
  · exact ⟨hl, .inl ⟨rfl, rfl⟩⟩
  · refine ⟨hl, .inr ⟨g, cap, cur, rfl, hg, ?_, r⟩⟩
    rw [hb.block g (by
      rcases Nat.lt_or_ge g w.heap.size with h | h
      · exact h
      · rw [Array.getElem?_eq_none h] at hh; cases hh)]
    exact hh
theorem own_base {w : World} {base base' : Nat} {e : TypeId} {size n : Nat} {v : Value} {xs : List Value} (h : w.ownsRow base e size v n xs) (hb : base' ≤ base) : w.ownsRow base' e size v n xs := by
  obtain ⟨hl, ⟨rfl, rfl⟩ | ⟨g, cap, cur, rfl, hg, r⟩⟩ := h
  · exact ⟨hl, .inl ⟨rfl, rfl⟩⟩
  · exact ⟨hl, .inr ⟨g, cap, cur, rfl, by omega, r⟩⟩

section
variable {P : Program} (w : World)
theorem run_app (base : Nat) (t ty e : TypeId) (i : TypeInfo) (z : Value) (size bytes : Nat) (ht : P.underlying t = some (.slice e)) (hi : P.info? e = some i) (hz : i.zero = some z)
    (hsize : i.size = size) (hby : i.bytes = bytes) (hzs : z.cells.size = size) (hsz : 0 < size)
    (v : Value) (n : Nat) (xs : List Value) (hown : w.ownsRow base e size v n xs)
    (x : Value) (news : List Value) (hr : Sl w size x news) (h1 : ∀ u ∈ news, u.oneCell' = true)
    (N : Nat) (hN : n * size + news.length = N * size) (hbytes : N * bytes ≤ 140737488355328) (hb0 : 0 < bytes) (hbase : base ≤ w.heap.size) :
    ∃ v' w', (Builtin.append_ #[t, t] ty #[v, x]).run P w = .ok v' w' ∧ w'.ownsRow base e size v' N (xs ++ news) ∧ w.grownBy w' v.ownBlock ∧
      (v'.ownBlock = v.ownBlock ∨ v'.ownBlock = some w.heap.size) := by
  obtain ⟨A, m, c, rfl, hl, hmc, hcm, hcell⟩ := hr
  have hm : n + m = N := by
    rw [hl, ← Nat.add_mul] at hN
    exact Nat.eq_of_mul_eq_mul_right hsz hN
  subst hm
  have hbb : (n + m) * bytes ≤ 140737488355328 := hbytes
  have h63 : n + m ≤ maxLen := by
    have : n + m ≤ (n + m) * bytes := Nat.le_mul_of_pos_right _ hb0
    unfold maxLen; omega
  rcases A with _ | ad
  · have h0 : m = 0 := by
      rcases Nat.eq_zero_or_pos m with h0 | h0
      · exact h0
      · obtain ⟨ad, h, _⟩ := hcell h0
        cases h
    subst h0
    have hn : news = [] := List.eq_nil_of_length_eq_zero (by simpa using hl)
    subst hn
    refine ⟨v, w, ?_, by simpa using hown, grown_refl w _, .inl rfl⟩
    rcases hown.2 with ⟨rfl, rfl⟩ | ⟨g, cap, cur, rfl, _, _, hnc, _⟩
    · simp [Builtin.append_, run_underlying ht, sizeOf, typeInfo, hi, Builtin.lenOf, Builtin.firstCells]
    · simp [Builtin.append_, run_underlying ht, sizeOf, typeInfo, hi, Builtin.lenOf, Builtin.firstCells, hnc, storeCells]
  · have hcells : ∀ j u, news[j]? = some u → w.cell? (ad.add j) = some u := by
      intro j u hu
      rcases Nat.eq_zero_or_pos m with h0 | h0
      · subst h0
        have hn : news = [] := List.eq_nil_of_length_eq_zero (by simpa using hl)
        subst hn
        simp at hu
      · obtain ⟨ad', h, hc⟩ := hcell h0
        injection h with h
        subst h
        exact hc j u hu
    obtain ⟨v', w', hrun, h2, h3, _, h5⟩ := run_append_own_at (P := P) w base t ty e i z size bytes ht hi hz hsize hby hzs hsz v n xs hown ad m c news hl hcells h1 h63 hbb hbase
    exact ⟨v', w', hrun, h2, h3, h5⟩

/-- What an append onto a row of the call's own leaves. -/
structure Appended (base : Nat) (e : TypeId) (size : Nat) (v : Value) (xs news : List Value) (w w' : World) (A : Option Addr) (n c : Nat) : Prop where
  own : w'.ownsRow base e size (.slice A n c) n (xs ++ news)
  grown : w.grownBy w' v.ownBlock
  block : (Value.slice A n c).ownBlock = v.ownBlock ∨ (Value.slice A n c).ownBlock = some w.heap.size
  cap : n ≤ c
  capm : (c : Int) ≤ 9223372036854775807

theorem wp_app {o : Oper} {a : Act} {K : Act → World → Prop} {Q : Exit → Act → World → Prop} (s x : Operand) (t : TypeId)
    (ho : o.op = .call { callee := .builtin .append, args := #[s, x], argTypes := #[t, t] })
    (base : Nat) (e : TypeId) (i : TypeInfo) (z : Value) (size bytes : Nat) (ht : P.underlying t = some (.slice e)) (hi : P.info? e = some i) (hz : i.zero = some z)
    (hsize : i.size = size) (hby : i.bytes = bytes) (hzs : z.cells.size = size) (hsz : 0 < size)
    (v : Value) (n : Nat) (xs : List Value) (hs : a.eval s = v) (hown : w.ownsRow base e size v n xs)
    (vx : Value) (news : List Value) (hx : a.eval x = vx) (hr : Sl w size vx news) (h1 : ∀ u ∈ news, u.oneCell' = true)
    (N : Nat) (hN : n * size + news.length = N * size) (hbytes : N * bytes ≤ 140737488355328) (hb0 : 0 < bytes) (hbase : base ≤ w.heap.size)
    (h : ∀ A c w', Appended base e size v xs news w w' A N c → K (a.put o.dst (.slice A N c)) w') : o.wp P a w K Q := by
  obtain ⟨v', w', hrun, h2, h3, h4⟩ := run_app (P := P) w base t o.type e i z size bytes ht hi hz hsize hby hzs hsz v n xs hown vx news hr h1 N hN hbytes hb0 hbase
  unfold Oper.wp execOp
  simp only [ho, resolve, invoke, builtin, Sem.run_bind, Sem.run_pure, Result.andThen_ok, List.map_toArray, List.map_cons, List.map_nil, hs, hx, hrun]
  obtain ⟨A, c, rfl, hc, hcm, _⟩ := own_slice h2
  exact h A c w' ⟨h2, h3, h4, hc, hcm⟩

theorem wpList_app {ops : Array Oper} {rest : List Oper} {o : Oper} {a : Act} {Q : Exit → Act → World → Prop} (hgd : o.guard = none) (s x : Operand) (t : TypeId)
    (ho : o.op = .call { callee := .builtin .append, args := #[s, x], argTypes := #[t, t] })
    (base : Nat) (e : TypeId) (i : TypeInfo) (z : Value) (size bytes : Nat) (ht : P.underlying t = some (.slice e)) (hi : P.info? e = some i) (hz : i.zero = some z)
    (hsize : i.size = size) (hby : i.bytes = bytes) (hzs : z.cells.size = size) (hsz : 0 < size)
    (v : Value) (n : Nat) (xs : List Value) (hs : a.eval s = v) (hown : w.ownsRow base e size v n xs)
    (vx : Value) (news : List Value) (hx : a.eval x = vx) (hr : Sl w size vx news) (h1 : ∀ u ∈ news, u.oneCell' = true)
    (N : Nat) (hN : n * size + news.length = N * size) (hbytes : N * bytes ≤ 140737488355328) (hb0 : 0 < bytes) (hbase : base ≤ w.heap.size)
    (h : ∀ A c w', Appended base e size v xs news w w' A N c → wpList P ops Q rest (a.put o.dst (.slice A N c)) w') : wpList P ops Q (o :: rest) a w :=
  wpList_plain hgd fun _ hK => wp_app w s x t ho base e i z size bytes ht hi hz hsize hby hzs hsz v n xs hs hown vx news hx hr h1 N hN hbytes hb0 hbase fun A c w' h2 => hK _ _ (h A c w' h2)

theorem step_app {ops : Array Oper} {o : Oper} {a : Act} {K : Act → World → Prop} {Q : Exit → Act → World → Prop} {E : Prop} (hgd : o.guard = none) (s x : Operand) (t : TypeId)
    (ho : o.op = .call { callee := .builtin .append, args := #[s, x], argTypes := #[t, t] })
    (base : Nat) (e : TypeId) (i : TypeInfo) (z : Value) (size bytes : Nat) (ht : P.underlying t = some (.slice e)) (hi : P.info? e = some i) (hz : i.zero = some z)
    (hsize : i.size = size) (hby : i.bytes = bytes) (hzs : z.cells.size = size) (hsz : 0 < size)
    (v : Value) (n : Nat) (xs : List Value) (hs : a.eval s = v) (hown : w.ownsRow base e size v n xs)
    (vx : Value) (news : List Value) (hx : a.eval x = vx) (hr : Sl w size vx news) (h1 : ∀ u ∈ news, u.oneCell' = true)
    (N : Nat) (hN : n * size + news.length = N * size) (hbytes : N * bytes ≤ 140737488355328) (hb0 : 0 < bytes) (hbase : base ≤ w.heap.size)
    (h : ∀ A c w', Appended base e size v xs news w w' A N c → K (a.put o.dst (.slice A N c)) w') :
    if Region.wanted o (yielded ops a.tmps) = true then Oper.wp P o a w K Q else E := by
  rw [if_pos (by simp [Region.wanted, hgd])]
  exact wp_app w s x t ho base e i z size bytes ht hi hz hsize hby hzs hsz v n xs hs hown vx news hx hr h1 N hN hbytes hb0 hbase h
end

theorem wrapU (a : Nat) (ha : a < 18446744073709551616) : IntKind.u64.wrap (a : Int) = (a : Int) := by rw [IntKind.wrap_u64]; omega
theorem wrap_div (x g : Nat) (hx : x < 18446744073709551616) : IntKind.u64.wrap ((x : Int) / (g : Int)) = ((x / g : Nat) : Int) := by
  rw [← Int.natCast_ediv]
  exact wrapU _ (Nat.lt_of_le_of_lt (Nat.div_le_self x g) hx)
/-- Calls that only draw, behind draws. -/
theorem quiet_add {P : Program} {f : FuncId} {args : Array Value} {w : World} {a n : Nat} {v : Value}
    (h : Calls P f args (w.drewN (a + n)) fun e w' => e = .returned v ∧ ∃ m, w' = (w.drewN (a + n)).drewN m) :
    Calls P f args (w.drewN (a + n)) fun e w'' => e = .returned v ∧ ∃ m, w'' = w.drewN (a + m) :=
  h.mono fun _ _ ⟨he, m, hm⟩ => ⟨he, n + m, by rw [hm, World.drewN_drewN, Nat.add_assoc]⟩
theorem quiet_add_left {P : Program} {f : FuncId} {args : Array Value} {w : World} {a n : Nat} {v : Value}
    (h : Calls P f args (w.drewN (a + n)) fun e w' => e = .returned v ∧ w.drewN (a + n) = w') :
    Calls P f args (w.drewN (a + n)) fun e w'' => e = .returned v ∧ ∃ m, w'' = w.drewN (a + m) :=
  h.mono fun _ _ ⟨he, hm⟩ => ⟨he, n, hm.symm⟩
theorem quiet_left {P : Program} {f : FuncId} {args : Array Value} {w : World} {n : Nat} {v : Value}
    (h : Calls P f args (w.drewN n) fun e w' => e = .returned v ∧ w.drewN n = w') : Calls P f args (w.drewN n) fun e w'' => e = .returned v ∧ ∃ m, w'' = w.drewN m :=
  h.mono fun _ _ ⟨he, hm⟩ => ⟨he, n, hm.symm⟩
theorem own_drewN {w : World} {base : Nat} {e : TypeId} {size n : Nat} {v : Value} {xs : List Value} (h : w.ownsRow base e size v n xs) (k : Nat) : (w.drewN k).ownsRow base e size v n xs := h
end

section
open Go Go.RowKit

theorem ret_u64 {a b : Int} (h : a = b) : Ending.returned (.int .u64 a) = Ending.returned (.int .u64 b) := by rw [h]
theorem ret_i64 {a b : Int} (h : a = b) : Ending.returned (.int .i64 a) = Ending.returned (.int .i64 b) := by rw [h]
theorem ret_bool {a b : Bool} (h : a = b) : Ending.returned (.bool a) = Ending.returned (.bool b) := by rw [h]

set_option maxHeartbeats 400000 in
theorem size_any (n : Int) (w : World) (h1 : -9223372036854775808 ≤ n) (h2 : n ≤ 9223372036854775807) :
    Calls Tryd.prog 86 #[.int .i64 n] w fun e w' => e = .returned (.int .u64 n.natAbs) ∧ w = w' := by
  by_cases h : n < 0
  · go_enter Tryd.func86, Tryd.ntmps86
    go_wp2
    go_ret
    exact ⟨ret_u64 (by omega), rfl⟩
  · go_enter Tryd.func86, Tryd.ntmps86
    go_wp2
    go_ret
    exact ⟨ret_u64 (by omega), rfl⟩

set_option maxHeartbeats 400000 in
theorem rsize_any (n : Int) (w : World) (h1 : -9223372036854775808 ≤ n) (h2 : n ≤ 9223372036854775807) :
    Calls Tryd.prog 89 #[.int .i64 n] w fun e w' => e = .returned (.int .u64 n.natAbs) ∧ w = w' := by
  by_cases h : n < 0
  · go_enter Tryd.func89, Tryd.ntmps89
    go_wp2
    go_ret
    exact ⟨ret_u64 (by omega), rfl⟩
  · go_enter Tryd.func89, Tryd.ntmps89
    go_wp2
    go_ret
    exact ⟨ret_u64 (by omega), rfl⟩

set_option maxHeartbeats 400000 in
theorem common_any (a b : Nat) (w : World) (ha : a < 18446744073709551616) (hb : b < 18446744073709551616) :
    Calls Tryd.prog 90 #[.int .u64 a, .int .u64 b] w fun e w' => e = .returned (.int .u64 (Nat.gcd b a)) ∧ ∃ n, w' = w.drewN n := by
  go_enter Tryd.func90, Tryd.ntmps90
  go_wp2
  go_loopw [0, 1] (fun x y wr => ∃ (c d n : Nat), c < 18446744073709551616 ∧ d < 18446744073709551616 ∧ x = .int .u64 c ∧ y = .int .u64 d ∧ Nat.gcd b a = Nat.gcd d c ∧ wr = w.drewN n) (fun _ y _ => (intOf y).toNat)
  case atStart => exact ⟨a, b, 0, ha, hb, rfl, rfl, rfl, rfl⟩
  case round =>
    obtain ⟨c, d, n, hc, hd, rfl, rfl, hg, rfl⟩ := hrel
    have HG := Lib.hid hg
    clear hg
    by_cases h0 : 0 < d
    · go_wp2
      go_quiet (fail)
      go_wp2
      go_roundw
      case rel =>
        have := Nat.mod_lt c h0
        exact ⟨d, c % d, _, hd, by omega, rfl, by go_num, by rw [HG.out]; exact Nat.gcd_rec _ _, World.drewN_drewN _ _ _⟩
      case measure => simp [intOf]; have := Nat.mod_lt c h0; omega
    · go_wp2
      go_ret
      have : d = 0 := by omega
      subst this
      exact ⟨by rw [HG.out]; simp, _, rfl⟩

set_option maxHeartbeats 400000 in
theorem gcd_any (a b : Nat) (w : World) (ha : a < 18446744073709551616) (hb : b < 18446744073709551616) :
    Calls Tryd.prog 91 #[.int .u64 a, .int .u64 b] w fun e w' => e = .returned (.int .u64 (Nat.gcd a b)) ∧ ∃ n, w' = w.drewN n := by
  go_enter Tryd.func91, Tryd.ntmps91
  go_wp2
  go_loopw [0, 1] (fun x y wr => ∃ (c d n : Nat), c < 18446744073709551616 ∧ d < 18446744073709551616 ∧ x = .int .u64 c ∧ y = .int .u64 d ∧ Nat.gcd a b = Nat.gcd c d ∧ wr = w.drewN n) (fun x _ _ => (intOf x).toNat)
  case atStart => exact ⟨a, b, 0, ha, hb, rfl, rfl, rfl, rfl⟩
  case round =>
    obtain ⟨c, d, n, hc, hd, rfl, rfl, hg, rfl⟩ := hrel
    have HG := Lib.hid hg
    clear hg
    by_cases h0 : 0 < c
    · go_wp2
      go_roundw
      case rel =>
        have := Nat.mod_lt d h0
        exact ⟨d % c, c, _, by omega, hc, by go_num, rfl, by rw [HG.out]; exact Nat.gcd_rec _ _, rfl⟩
      case measure => simp [intOf]; have := Nat.mod_lt d h0; omega
    · go_wp2
      go_ret
      have : c = 0 := by omega
      subst this
      exact ⟨by rw [HG.out]; simp, _, rfl⟩

set_option maxHeartbeats 400000 in
theorem need_yes (e : Int) (w : World) : Calls Tryd.prog 97 #[.bool true, .int .i64 e] w fun r w' => r = .returned (.int .i64 0) ∧ w = w' := by
  go_enter Tryd.func97, Tryd.ntmps97
  go_wp2
  go_ret
  exact ⟨rfl, rfl⟩
set_option maxHeartbeats 400000 in
theorem need_no (e : Int) (w : World) : Calls Tryd.prog 97 #[.bool false, .int .i64 e] w fun r w' => r = .returned (.int .i64 e) ∧ w = w' := by
  go_enter Tryd.func97, Tryd.ntmps97
  go_wp2
  go_ret
  exact ⟨rfl, rfl⟩
def needF (b : Bool) (e : Int) : Int := if b then 0 else e
theorem need_any (b : Bool) (e : Int) (w : World) : Calls Tryd.prog 97 #[.bool b, .int .i64 e] w fun r w' => r = .returned (.int .i64 (needF b e)) ∧ w = w' := by
  cases b
  · exact need_no e w
  · exact need_yes e w

/-- The first error that is none of OK. -/
def firstF : List Int → Int
  | [] => 0
  | e :: l => if e = 0 then firstF l else e
theorem firstF_skip (l : List Int) (k : Nat) (h : ∀ j, j < k → l.getD j 0 = 0) : firstF l = firstF (l.drop k) := by
  induction k generalizing l with
  | zero => rfl
  | succ k ih =>
    cases l with
    | nil => rfl
    | cons e l =>
      have h0 := h 0 (by omega)
      simp at h0
      subst h0
      simp only [firstF, if_pos, List.drop_succ_cons]
      exact ih l fun j hj => by have := h (j + 1) (by omega); simpa using this
theorem firstF_here (l : List Int) (k : Nat) (hk : k < l.length) (h : ∀ j, j < k → l.getD j 0 = 0) (hne : l.getD k 0 ≠ 0) : firstF l = l.getD k 0 := by
  rw [firstF_skip l k h]
  rw [List.drop_eq_getElem_cons hk]
  have : l.getD k 0 = l[k] := by simp [List.getD, hk]
  rw [this] at hne ⊢
  simp [firstF, hne]
theorem firstF_end (l : List Int) (h : ∀ j, j < l.length → l.getD j 0 = 0) : firstF l = 0 := by
  rw [firstF_skip l l.length h]; simp [firstF]

set_option maxHeartbeats 400000 in
theorem first_any (v : Value) (l : List Int) (w : World) (hv : Sl w 1 v (l.map (Value.int .i64))) :
    Calls Tryd.prog 102 #[v] w fun e w' => e = .returned (.int .i64 (firstF l)) ∧ w = w' := by
  obtain ⟨A, c, rfl, hlc, hcm, hcell⟩ := hv.open1
  simp only [List.length_map] at hlc ⊢
  go_enter Tryd.func102, Tryd.ntmps102
  go_wp2
  go_loop [4, 7] (fun _ i => ∃ k : Nat, k ≤ l.length ∧ i = .int .i64 k ∧ ∀ j, j < k → l.getD j 0 = 0) (fun _ i => l.length - (intOf i).toNat)
  case atStart => exact ⟨0, by omega, rfl, by intro j hj; omega⟩
  case round =>
    obtain ⟨k, hk, rfl, hz⟩ := hrel
    have HZ := Lib.hid hz
    clear hz
    by_cases hlt : k < l.length
    · obtain ⟨ad, rfl, hc⟩ := hcell k (.int .i64 l[k]) (by simp [hlt])
      have HC := Lib.hid hcell
      clear hcell
      by_cases h0 : l[k] = 0
      · have h1 : (l[k] != 0) = false := by simp [h0]
        have H0 := Lib.hid h0
        clear h0
        go_wp2
        go_round
        case rel =>
          refine ⟨k + 1, by omega, by go_num, fun j hj => ?_⟩
          rcases Nat.lt_or_ge j k with h | h
          · exact HZ.out j h
          · have : j = k := by omega
            subst this
            simp [List.getD, hlt, H0.out]
        case measure => simp [intOf]; omega
      · have h1 : (l[k] != 0) = true := by simpa using h0
        go_wp2
        go_ret
        refine ⟨ret_i64 ?_, rfl⟩
        rw [firstF_here l k hlt HZ.out (by simpa [List.getD, hlt] using h0)]
        simp [List.getD, hlt]
    · have HC := Lib.hid hcell
      clear hcell
      go_wp2
      go_ret
      exact ⟨ret_i64 (by rw [firstF_end l (by intro j hj; exact HZ.out j (by omega))]), rfl⟩
end

section
def prodN : List Nat → Nat
  | [] => 1
  | a :: l => a * prodN l
theorem prodN_append (l m : List Nat) : prodN (l ++ m) = prodN l * prodN m := by
  induction l with
  | nil => simp [prodN]
  | cons a l ih => simp [prodN, ih, Nat.mul_assoc]
/-- Numbers from 1 below 2 to the 64. -/
def Ones (l : List Nat) : Prop := ∀ x ∈ l, 1 ≤ x ∧ x < 18446744073709551616
theorem Ones.nil : Ones [] := fun _ h => by cases h
theorem Ones.append {l m : List Nat} (h : Ones l) (k : Ones m) : Ones (l ++ m) := fun x hx => (List.mem_append.1 hx).elim (h x) (k x)
theorem Ones.cons {a : Nat} {l : List Nat} (h1 : 1 ≤ a) (h2 : a < 18446744073709551616) (h : Ones l) : Ones (a :: l) := fun x hx => by
  rcases List.mem_cons.1 hx with rfl | hx
  · exact ⟨h1, h2⟩
  · exact h x hx
theorem Ones.get {l : List Nat} (h : Ones l) {k : Nat} (hk : k < l.length) : 1 ≤ l[k] ∧ l[k] < 18446744073709551616 := h _ (List.getElem_mem hk)
theorem prodN_pos {l : List Nat} (h : ∀ x ∈ l, 1 ≤ x) : 1 ≤ prodN l := by
  induction l with
  | nil => simp [prodN]
  | cons a l ih =>
    have h1 := h a (by simp)
    have h2 := ih fun x hx => h x (by simp [hx])
    exact Nat.mul_pos h1 h2
theorem Ones.pos {l : List Nat} (h : Ones l) : 1 ≤ prodN l := prodN_pos fun x hx => (h x hx).1
theorem prodN_set (l : List Nat) (i x : Nat) (h : i < l.length) : prodN (l.set i x) * l[i] = prodN l * x := by
  induction l generalizing i with
  | nil => simp at h
  | cons a l ih =>
    cases i with
    | zero => simp only [List.set_cons_zero, prodN, List.getElem_cons_zero]; rw [Nat.mul_right_comm, Nat.mul_comm x a, Nat.mul_right_comm]
    | succ i =>
      simp only [List.set_cons_succ, prodN, List.getElem_cons_succ]
      rw [Nat.mul_assoc, ih i (by simpa using h), Nat.mul_assoc]
/-- The numbers other than 1. -/
def strike (l : List Nat) : List Nat := l.filter (· ≠ 1)
theorem strike_snoc (l : List Nat) (k : Nat) (h : k < l.length) : strike (l.take (k + 1)) = strike (l.take k) ++ if l[k] = 1 then [] else [l[k]] := by
  unfold strike
  rw [List.take_succ_eq_append_getElem h, List.filter_append]
  by_cases h1 : l[k] = 1 <;> simp [h1]
theorem strike_length (l : List Nat) : (strike l).length ≤ l.length := List.length_filter_le _ _
theorem strike_take (l : List Nat) (k : Nat) : (strike (l.take k)).length ≤ k := Nat.le_trans (strike_length _) (by simp; omega)
theorem prodN_filter (l : List Nat) : prodN (strike l) = prodN l := by
  unfold strike
  induction l with
  | nil => rfl
  | cons a l ih =>
    by_cases h : a = 1
    · simp_all [prodN]
    · simp_all [prodN]
theorem prodN_coprime_left {l : List Nat} {m : Nat} (h : ∀ x ∈ l, Nat.Coprime x m) : Nat.Coprime (prodN l) m := by
  induction l with
  | nil => exact Nat.coprime_one_left_eq_true m ▸ trivial
  | cons a l ih => exact Nat.Coprime.mul_left (h a (by simp)) (ih fun x hx => h x (by simp [hx]))
theorem prodN_coprime {l m : List Nat} (h : ∀ x ∈ l, ∀ y ∈ m, Nat.Coprime x y) : Nat.Coprime (prodN l) (prodN m) :=
  prodN_coprime_left fun x hx => (prodN_coprime_left (l := m) fun y hy => (h x hx y hy).symm).symm

theorem prodN_take (l : List Nat) (k : Nat) (h : k < l.length) : prodN (l.take (k + 1)) = prodN (l.take k) * l[k] := by
  rw [List.take_succ_eq_append_getElem h, prodN_append]; simp [prodN]
theorem prodN_take_le {l : List Nat} (h : Ones l) (k : Nat) : prodN (l.take k) ≤ prodN l := by
  have e : prodN l = prodN (l.take k) * prodN (l.drop k) := by rw [← prodN_append, List.take_append_drop]
  rw [e]
  exact Nat.le_mul_of_pos_right _ (prodN_pos fun x hx => (h x (List.mem_of_mem_drop hx)).1)

/-- The quotient of two products. -/
def val (U D : List Nat) : Rat := (prodN U : Rat) / (prodN D : Rat)
theorem castN_ne {n : Nat} (h : 1 ≤ n) : (n : Rat) ≠ 0 := by
  intro h0
  have : ((n : Int) : Rat) = ((0 : Int) : Rat) := by exact_mod_cast h0
  have : (n : Int) = 0 := by exact_mod_cast this
  omega
theorem Ones.ne {l : List Nat} (h : Ones l) : (prodN l : Rat) ≠ 0 := castN_ne h.pos
theorem val_append {U D U' D' : List Nat} (hD : Ones D) (hD' : Ones D') : val (U ++ U') (D ++ D') = val U D * val U' D' := by
  unfold val
  rw [prodN_append, prodN_append]
  have h1 := hD.ne
  have h2 := hD'.ne
  have e1 : ((prodN U * prodN U' : Nat) : Rat) = (prodN U : Rat) * (prodN U' : Rat) := by exact_mod_cast rfl
  have e2 : ((prodN D * prodN D' : Nat) : Rat) = (prodN D : Rat) * (prodN D' : Rat) := by exact_mod_cast rfl
  rw [e1, e2]
  grind
theorem val_swap {U D : List Nat} (hU : Ones U) (hD : Ones D) : val D U = (val U D)⁻¹ := by
  unfold val
  have h1 := hU.ne
  have h2 := hD.ne
  grind
theorem val_nil : val [] [] = 1 := by unfold val; simp [prodN]; grind
theorem val_pos {U D : List Nat} (hU : Ones U) (hD : Ones D) : 0 < val U D := by
  unfold val
  have h1 : (0 : Rat) < (prodN U : Rat) := by exact_mod_cast hU.pos
  have h2 : (0 : Rat) < (prodN D : Rat) := by exact_mod_cast hD.pos
  rw [Rat.div_def]; exact Rat.mul_pos h1 (Rat.inv_pos.2 h2)

/-- A reduced product of the value q: no factor 1, and nothing in common. -/
structure Red (U D : List Nat) (q : Rat) : Prop where
  up : ∀ x ∈ U, 2 ≤ x ∧ x < 18446744073709551616
  down : ∀ x ∈ D, 2 ≤ x ∧ x < 18446744073709551616
  cop : Nat.Coprime (prodN U) (prodN D)
  val : val U D = q
theorem Red.onesU {U D : List Nat} {q : Rat} (h : Red U D q) : Ones U := fun x hx => ⟨by have := (h.up x hx).1; omega, (h.up x hx).2⟩
theorem Red.onesD {U D : List Nat} {q : Rat} (h : Red U D q) : Ones D := fun x hx => ⟨by have := (h.down x hx).1; omega, (h.down x hx).2⟩
theorem Red.pos {U D : List Nat} {q : Rat} (h : Red U D q) : 0 < q := h.val ▸ val_pos h.onesU h.onesD
theorem Red.ne {U D : List Nat} {q : Rat} (h : Red U D q) : q ≠ 0 := by have := h.pos; grind
theorem div_num_den {a b : Nat} (hb : 1 ≤ b) (h : Nat.Coprime a b) : ((a : Rat) / (b : Rat)).num = a ∧ ((a : Rat) / (b : Rat)).den = b := by
  have e : (a : Rat) / (b : Rat) = mkRat a b := by
    rw [Rat.mkRat_eq_div]
    norm_cast
  rw [e]
  have hb0 : b ≠ 0 := by omega
  have h1 : a.gcd b = 1 := h
  rw [← Rat.normalize_eq_mkRat hb0, Rat.normalize_eq]
  simp [h1]
theorem Red.num {U D : List Nat} {q : Rat} (h : Red U D q) : q.num = prodN U := h.val ▸ (div_num_den h.onesD.pos h.cop).1
theorem Red.den {U D : List Nat} {q : Rat} (h : Red U D q) : q.den = prodN D := h.val ▸ (div_num_den h.onesD.pos h.cop).2
theorem Red.turned {U D : List Nat} {q : Rat} (h : Red U D q) : Red D U q⁻¹ := ⟨h.down, h.up, h.cop.symm, by rw [val_swap h.onesU h.onesD, h.val]⟩
theorem prodN_one {l : List Nat} (h : ∀ x ∈ l, 2 ≤ x) (h1 : prodN l = 1) : l = [] := by
  cases l with
  | nil => rfl
  | cons a l =>
    have := h a (by simp)
    have h2 := prodN_pos (l := l) fun x hx => by have := h x (by simp [hx]); omega
    have : 2 * 1 ≤ a * prodN l := Nat.mul_le_mul this h2
    simp only [prodN] at h1
    omega
theorem Red.one_iff {U D : List Nat} {q : Rat} (h : Red U D q) : q = 1 ↔ U = [] ∧ D = [] := by
  constructor
  · intro h1
    subst h1
    have hn := h.num
    have hd := h.den
    simp at hn hd
    exact ⟨prodN_one (fun x hx => (h.up x hx).1) (by omega), prodN_one (fun x hx => (h.down x hx).1) (by omega)⟩
  · rintro ⟨rfl, rfl⟩
    exact h.val ▸ val_nil
theorem Red.nil : Red [] [] 1 := ⟨(fun _ h => by cases h), (fun _ h => by cases h), by simp [prodN], val_nil⟩

/-- A state of the cancelling of U against D: the same quotient; the pairs that are done have nothing in common. -/
structure Canc (U0 D0 U D : List Nat) (i j : Nat) : Prop where
  lenU : U.length = U0.length
  lenD : D.length = D0.length
  onesU : Ones U
  onesD : Ones D
  val : val U D = val U0 D0
  done : ∀ a b (ha : a < U.length) (hb : b < D.length), a < i ∨ (a = i ∧ b < j) → Nat.Coprime U[a] D[b]
theorem Canc.start {U D : List Nat} (hU : Ones U) (hD : Ones D) : Canc U D U D 0 0 := ⟨rfl, rfl, hU, hD, rfl, fun a b _ _ h => by omega⟩
theorem Canc.next {U0 D0 U D : List Nat} {i : Nat} (h : Canc U0 D0 U D i D.length) : Canc U0 D0 U D (i + 1) 0 :=
  ⟨h.lenU, h.lenD, h.onesU, h.onesD, h.val, fun a b ha hb hab => h.done a b ha hb (by omega)⟩
theorem div_le_self' {x g : Nat} : x / g ≤ x := Nat.div_le_self x g
theorem Canc.step {U0 D0 U D : List Nat} {i j : Nat} (h : Canc U0 D0 U D i j) (hi : i < U.length) (hj : j < D.length) (g : Nat) (hg : g = Nat.gcd U[i] D[j]) :
    Canc U0 D0 (U.set i (U[i] / g)) (D.set j (D[j] / g)) i (j + 1) := by
  have hu := h.onesU.get hi
  have hd := h.onesD.get hj
  have hg1 : 0 < g := by rw [hg]; exact Nat.gcd_pos_of_pos_left _ (by omega)
  have du : g ∣ U[i] := hg ▸ Nat.gcd_dvd_left _ _
  have dd : g ∣ D[j] := hg ▸ Nat.gcd_dvd_right _ _
  have hu1 : 1 ≤ U[i] / g := Nat.div_pos (Nat.le_of_dvd (by omega) du) hg1
  have hd1 : 1 ≤ D[j] / g := Nat.div_pos (Nat.le_of_dvd (by omega) dd) hg1
  have oU : Ones (U.set i (U[i] / g)) := fun x hx => by
    rcases List.mem_or_eq_of_mem_set hx with hx | rfl
    · exact h.onesU x hx
    · exact ⟨hu1, Nat.lt_of_le_of_lt div_le_self' hu.2⟩
  have oD : Ones (D.set j (D[j] / g)) := fun x hx => by
    rcases List.mem_or_eq_of_mem_set hx with hx | rfl
    · exact h.onesD x hx
    · exact ⟨hd1, Nat.lt_of_le_of_lt div_le_self' hd.2⟩
  refine ⟨by rw [List.length_set]; exact h.lenU, by rw [List.length_set]; exact h.lenD, oU, oD, ?_, ?_⟩
  · rw [← h.val]
    have eU : prodN (U.set i (U[i] / g)) * g = prodN U := by
      have e := prodN_set U i (U[i] / g) hi
      have e2 : U[i] = U[i] / g * g := (Nat.div_mul_cancel du).symm
      have e3 : prodN (U.set i (U[i] / g)) * g * (U[i] / g) = prodN U * (U[i] / g) := by
        rw [← e, Nat.mul_assoc, Nat.mul_comm g, ← e2]
      exact Nat.eq_of_mul_eq_mul_right hu1 e3
    have eD : prodN (D.set j (D[j] / g)) * g = prodN D := by
      have e := prodN_set D j (D[j] / g) hj
      have e2 : D[j] = D[j] / g * g := (Nat.div_mul_cancel dd).symm
      have e3 : prodN (D.set j (D[j] / g)) * g * (D[j] / g) = prodN D * (D[j] / g) := by
        rw [← e, Nat.mul_assoc, Nat.mul_comm g, ← e2]
      exact Nat.eq_of_mul_eq_mul_right hd1 e3
    unfold Go.Proofs.YtmibpncmebhbjaaDoor.val
    rw [← eU, ← eD]
    have c1 : ((prodN (U.set i (U[i] / g)) * g : Nat) : Rat) = (prodN (U.set i (U[i] / g)) : Rat) * (g : Rat) := by exact_mod_cast rfl
    have c2 : ((prodN (D.set j (D[j] / g)) * g : Nat) : Rat) = (prodN (D.set j (D[j] / g)) : Rat) * (g : Rat) := by exact_mod_cast rfl
    rw [c1, c2]
    have n1 := oD.ne
    have n2 := castN_ne hg1
    generalize (prodN (U.set i (U[i] / g)) : Rat) = x
    generalize hy : (prodN (D.set j (D[j] / g)) : Rat) = y at *
    grind
  · intro a b ha hb hab
    simp only [List.length_set] at ha hb
    have key : ∀ (x y x' y' : Nat), Nat.Coprime x y → x' ∣ x → y' ∣ y → Nat.Coprime x' y' := fun x y x' y' hc h1 h2 => (hc.coprime_dvd_left h1).coprime_dvd_right h2
    have dvU : (U.set i (U[i] / g))[a]'(by simpa using ha) ∣ U[a] := by
      rw [List.getElem_set]
      split
      · rename_i e; subst e; exact Nat.div_dvd_of_dvd du
      · exact Nat.dvd_refl _
    have dvD : (D.set j (D[j] / g))[b]'(by simpa using hb) ∣ D[b] := by
      rw [List.getElem_set]
      split
      · rename_i e; subst e; exact Nat.div_dvd_of_dvd dd
      · exact Nat.dvd_refl _
    by_cases hc : a = i ∧ b = j
    · obtain ⟨rfl, rfl⟩ := hc
      simp only [List.getElem_set_self]
      rw [hg]
      exact Nat.coprime_div_gcd_div_gcd (by rw [← hg]; exact hg1)
    · exact key _ _ _ _ (h.done a b ha hb (by omega)) dvU dvD
/-- All pairs are done, and the factors 1 are struck. -/
theorem Canc.red {U0 D0 U D : List Nat} {j : Nat} (h : Canc U0 D0 U D U.length j) : Red (strike U) (strike D) (Go.Proofs.YtmibpncmebhbjaaDoor.val U0 D0) := by
  have two : ∀ {l : List Nat}, Ones l → ∀ x ∈ strike l, 2 ≤ x ∧ x < 18446744073709551616 := by
    intro l hl x hx
    have hm := List.mem_filter.1 hx
    have h1 := hl x hm.1
    have : x ≠ 1 := by simpa using hm.2
    exact ⟨by omega, h1.2⟩
  refine ⟨two h.onesU, two h.onesD, ?_, ?_⟩
  · rw [prodN_filter, prodN_filter]
    refine prodN_coprime fun x hx y hy => ?_
    obtain ⟨a, ha, rfl⟩ := List.getElem_of_mem hx
    obtain ⟨b, hb, rfl⟩ := List.getElem_of_mem hy
    exact h.done a b ha hb (.inl ha)
  · rw [← h.val]
    unfold Go.Proofs.YtmibpncmebhbjaaDoor.val
    rw [prodN_filter, prodN_filter]
end

section
open Go Go.RowKit Go.Shelf
def ren264 : Go.Shelf.Ren := ⟨fun | 264 => 133 | n => n, fun | 53 => 117 | 46 => 173 | n => n, fun | n => n⟩
theorem lays264 : Go.Proofs.Lays.n264 Tryd.prog ren264 := {
  mixed := by kernel_rfl
  f264 := Tryd.func133.trans (congrArg some (by kernel_rfl))
  t46 := Tryd.underlying173
  a46 := Tryd.isAgg173
  z46 := Tryd.sizeOf173
  v46 := Tryd.zeroValue173
  t53 := Tryd.underlying117
  a53 := Tryd.isAgg117
  z53 := Tryd.sizeOf117
  v53 := Tryd.zeroValue117 }
theorem mul64_any (x y : Nat) (hx : x < 18446744073709551616) (hy : y < 18446744073709551616) (w : World) :
    Calls Tryd.prog 133 #[.int .u64 x, .int .u64 y] w fun e w' => e = .returned (.tuple #[.int .u64 ((x * y / 18446744073709551616 : Nat) : Int), .int .u64 ((x * y % 18446744073709551616 : Nat) : Int)]) ∧ w = w' :=
  (Any.bits_Mul64 lays264 x y hx hy w).mono fun _ _ ⟨h1, h2⟩ => ⟨h1, h2.symm⟩

/-- Numbers of type uint64, as cells. -/
def u64s (l : List Nat) : List Value := l.map fun (n : Nat) => Value.int .u64 (n : Int)
theorem u64s_length (l : List Nat) : (u64s l).length = l.length := by simp [u64s]
theorem u64s_append (l m : List Nat) : u64s (l ++ m) = u64s l ++ u64s m := by simp [u64s]
theorem u64s_one (l : List Nat) : ∀ u ∈ u64s l, u.oneCell' = true := by
  intro u hu
  simp only [u64s, List.mem_map] at hu
  obtain ⟨n, _, rfl⟩ := hu
  rfl
theorem u64s_ne (l : List Nat) (A : Option Addr) (n c : Nat) : ∀ u ∈ u64s l, u ≠ .slice A n c := by
  intro u hu
  simp only [u64s, List.mem_map] at hu
  obtain ⟨n, _, rfl⟩ := hu
  intro h; cases h
theorem u64s_get {l : List Nat} {k : Nat} (hk : k < l.length) : (u64s l)[k]? = some (.int .u64 (l[k] : Int)) := by simp [u64s, hk]
theorem u64s_set (l : List Nat) (k x : Nat) : (u64s l).set k (.int .u64 (x : Int)) = u64s (l.set k x) := by simp [u64s, List.map_set]
theorem infoU64 : (Tryd.prog.info? 117).map (fun i => (i.zero, i.size, i.bytes)) = some (some (.int .u64 0), 1, 8) := by kernel_rfl

section
variable {ops : Array Oper} {rest : List Oper} {o : Oper} {a : Act} {K : Act → World → Prop} {Q : Exit → Act → World → Prop} {w : World} {E : Prop}
/-- append onto a row of uint64, at a plain region. -/
theorem appU64 (s x : Operand) (hgd : o.guard = none) (ho : o.op = .call { callee := .builtin .append, args := #[s, x], argTypes := #[119, 119] })
    {base n : Nat} {v vx : Value} {xs news : List Value} (hs : a.eval s = v) (hx : a.eval x = vx) (hown : w.ownsRow base 117 1 v n xs) (hr : Sl w 1 vx news) (h1 : ∀ u ∈ news, u.oneCell' = true)
    {N : Nat} (hN : n + news.length = N) (hb : N ≤ 17592186044416) (hbase : base ≤ w.heap.size)
    (h : ∀ A c w', Appended base 117 1 v xs news w w' A N c → wpList Tryd.prog ops Q rest (a.put o.dst (.slice A N c)) w') : wpList Tryd.prog ops Q (o :: rest) a w := by
  obtain ⟨i, hi, hz0, hz1, hz2⟩ := info_parts infoU64
  exact wpList_app w hgd s x 119 ho base 117 i (.int .u64 0) 1 8 Tryd.underlying119 hi hz0 hz1 hz2 rfl (by decide) v n xs hs hown vx news hx hr h1 N (by omega) (by omega) (by decide) hbase h
/-- The same, at a step of a region that draws its order. -/
theorem stepU64 (s x : Operand) (hgd : o.guard = none) (ho : o.op = .call { callee := .builtin .append, args := #[s, x], argTypes := #[119, 119] })
    {base n : Nat} {v vx : Value} {xs news : List Value} (hs : a.eval s = v) (hx : a.eval x = vx) (hown : w.ownsRow base 117 1 v n xs) (hr : Sl w 1 vx news) (h1 : ∀ u ∈ news, u.oneCell' = true)
    {N : Nat} (hN : n + news.length = N) (hb : N ≤ 17592186044416) (hbase : base ≤ w.heap.size)
    (h : ∀ A c w', Appended base 117 1 v xs news w w' A N c → K (a.put o.dst (.slice A N c)) w') : if Region.wanted o (yielded ops a.tmps) = true then Oper.wp Tryd.prog o a w K Q else E := by
  obtain ⟨i, hi, hz0, hz1, hz2⟩ := info_parts infoU64
  exact step_app w hgd s x 119 ho base 117 i (.int .u64 0) 1 8 Tryd.underlying119 hi hz0 hz1 hz2 rfl (by decide) v n xs hs hown vx news hx hr h1 N (by omega) (by omega) (by decide) hbase h
end
end

section
open Go Go.RowKit

theorem below_of_own {w w' : World} {base : Nat} {e : TypeId} {size n : Nat} {v : Value} {xs : List Value} (hg : w.grownBy w' v.ownBlock) (h : w.ownsRow base e size v n xs) {B : World} (hB : Below B.heap.size B w) (hb : B.heap.size ≤ base) : Below B.heap.size B w' :=
  hB.grown hg hB.size (fun k hk => Nat.le_trans hb (h.lt k hk).1)

set_option maxRecDepth 100000 in
set_option maxHeartbeats 400000 in
theorem trimmed_any (v : Value) (l : List Nat) (w : World) (hv : Sl w 1 v (u64s l)) (hl : l.length ≤ 17592186044415) :
    Calls Tryd.prog 132 #[v] w fun e w' => ∃ r, e = .returned r ∧ Below w.heap.size w w' ∧ w'.ownsRow w.heap.size 117 1 r (strike l).length (u64s (strike l)) := by
  obtain ⟨A, c, rfl, hlc, hcm, hcell⟩ := hv.open1
  simp only [u64s_length] at hlc ⊢
  go_enter Tryd.func132, Tryd.ntmps132
  go_wp2
  go_loopw [3, 5, 8] (fun v x i wr => ∃ (k : Nat), k ≤ l.length ∧ i = .int .i64 k ∧ wr.ownsRow w.heap.size 117 1 v (strike (l.take k)).length (u64s (strike (l.take k))) ∧ Below w.heap.size w wr) (fun _ _ i _ => l.length - (intOf i).toNat)
  case atStart => exact ⟨0, by omega, rfl, World.ownsRow_nil _ _ _ _, Below.refl _ _⟩
  case round =>
    obtain ⟨k, hk, rfl, hown, hbel⟩ := hrel
    by_cases hlt : k < l.length
    · obtain ⟨ad, rfl, hcell0⟩ := hcell k _ (u64s_get hlt)
      have hcell' : wr.cell? (ad.add k) = some (.int .u64 (l[k] : Int)) := (hbel.cell (block_lt_of_cell hcell0)).trans hcell0
      have HC := Lib.hid hcell
      clear hcell hcell0
      have hf := strike_take l k
      have HS := Lib.hid (strike_snoc l k hlt)
      have hsz := hbel.size
      by_cases h1 : l[k] = 1
      · have h2 : ((l[k] : Int) != 1) = false := by simp [h1]
        have H1 := Lib.hid h1
        clear h1
        go_wp2
        go_roundw
        case rel => exact ⟨k + 1, by omega, by go_num, by rw [HS.out, if_pos H1.out]; simpa using hown, hbel⟩
        case measure => simp [intOf]; omega
      · have h2 : ((l[k] : Int) != 1) = true := by rw [bne_iff_ne]; omega
        have H1 := Lib.hid h1
        clear h1
        go_wp2_with (at_builtin; refine appU64 _ _ rfl rfl rfl rfl (hown.alloc _) (Sl.new (s := 1) wr 117 1 1 _ rfl (by omega) (by omega)) (by simp [Value.oneCell']) rfl (by simp; omega) (by simp; omega) ?_; intro A1 c1 w1 hap)
        have hb1 := below_of_own hap.grown (hown.alloc _) (hbel.alloc hsz (.cells #[.int .u64 (l[k] : Int)] 117)) (Nat.le_refl _)
        have hap1 := hap.own
        clear hap hcell'
        go_wp2
        go_roundw
        case rel => exact ⟨k + 1, by omega, by go_num, by rw [HS.out, if_neg H1.out, u64s_append]; simpa [u64s] using hap1, hb1⟩
        case measure => simp [intOf]; omega
    · have HC := Lib.hid hcell
      clear hcell
      go_wp2
      go_ret
      refine ⟨_, rfl, hbel, ?_⟩
      have : l.take k = l := List.take_of_length_le (by omega)
      rw [this] at hown
      exact hown

theorem mul_parts' (a b m : Nat) (hm : m < 18446744073709551616) (h : a * b ≤ m) : a * b / 18446744073709551616 = 0 ∧ a * b % 18446744073709551616 = a * b := by omega
def WithinPost (l : List Nat) (most : Nat) (e : Ending) : Prop :=
  (prodN l ≤ most ∧ e = .returned (.tuple #[.int .u64 (prodN l : Int), .bool true])) ∨ (¬ prodN l ≤ most ∧ e = .returned (.tuple #[.int .u64 0, .bool false]))

set_option maxRecDepth 100000 in
set_option maxHeartbeats 400000 in
theorem within_any (v : Value) (l : List Nat) (most : Nat) (w : World) (hv : Sl w 1 v (u64s l)) (ho : Ones l) (hm0 : 1 ≤ most) (hm : most < 18446744073709551616) :
    Calls Tryd.prog 122 #[v, .int .u64 most] w fun e w' => WithinPost l most e ∧ ∃ n, w' = w.drewN n := by
  obtain ⟨A, c, rfl, hlc, hcm, hcell⟩ := hv.open1
  simp only [u64s_length] at hlc ⊢
  go_enter Tryd.func122, Tryd.ntmps122
  go_wp2
  go_loopw [6, 8, 9, 10, 13, 17] (fun p _ _ _ i _ wr => ∃ (k n : Nat), k ≤ l.length ∧ i = .int .i64 k ∧ p = .int .u64 (prodN (l.take k)) ∧ prodN (l.take k) ≤ most ∧ wr = w.drewN n) (fun _ _ _ _ i _ _ => l.length - (intOf i).toNat)
  case atStart => exact ⟨0, 0, by omega, rfl, rfl, by simpa [prodN] using hm0, rfl⟩
  case round =>
    obtain ⟨k, n, hk, rfl, rfl, hp, rfl⟩ := hrel
    by_cases hlt : k < l.length
    · obtain ⟨ad, rfl, hcell0⟩ := hcell k _ (u64s_get hlt)
      have HC := Lib.hid hcell
      clear hcell
      have hx := ho.get hlt
      have hx2 := hx.2
      have HS := Lib.hid (prodN_take l k hlt)
      have HT := Lib.hid (prodN_take_le ho (k + 1))
      have hpm : prodN (l.take k) < 18446744073709551616 := by omega
      generalize hpe : prodN (l.take k) = p at *
      clear hpe
      by_cases hle : p * l[k] ≤ most
      · obtain ⟨e1, e2⟩ := mul_parts' _ _ _ hm hle
        have E2 := Lib.hid e2
        clear e2
        go_wp2_with (go_at_call 133; refine (mul64_any p l[k] hpm hx2 _).mono ?_; rintro e w' ⟨rfl, rfl⟩)
        go_roundw
        case rel => exact ⟨k + 1, n, by omega, by go_num, by rw [HS.out, ← E2.out]; simp, by rw [HS.out]; exact hle, rfl⟩
        case measure => simp [intOf]; omega
      · have HN : Hid (¬ prodN l ≤ most) := Lib.hid (fun h => hle (by have h1 := HS.out; rw [← h1]; exact Nat.le_trans HT.out h))
        by_cases hh : p * l[k] / 18446744073709551616 = 0
        · have hlow : (most : Int) < (p : Int) * (l[k] : Int) % 18446744073709551616 := by
            have : p * l[k] % 18446744073709551616 = p * l[k] := by omega
            have : (p : Int) * (l[k] : Int) = ((p * l[k] : Nat) : Int) := by simp
            omega
          have hb : ((p : Int) * (l[k] : Int) / 18446744073709551616 != 0) = false := by
            have : (p : Int) * (l[k] : Int) = ((p * l[k] : Nat) : Int) := by simp
            rw [bne_eq_false_iff_eq]
            omega
          have HH := Lib.hid hh
          clear hh
          go_wp2_with (go_at_call 133; refine (mul64_any p l[k] hpm hx2 _).mono ?_; rintro e w' ⟨rfl, rfl⟩)
          go_ret2
          exact ⟨.inr ⟨HN.out, rfl⟩, _, rfl⟩
        · have hb : ((p : Int) * (l[k] : Int) / 18446744073709551616 != 0) = true := by
            have : (p : Int) * (l[k] : Int) = ((p * l[k] : Nat) : Int) := by simp
            rw [bne_iff_ne]
            omega
          go_wp2_with (go_at_call 133; refine (mul64_any p l[k] hpm hx2 _).mono ?_; rintro e w' ⟨rfl, rfl⟩)
          go_ret2
          exact ⟨.inr ⟨HN.out, rfl⟩, _, rfl⟩
    · have HC := Lib.hid hcell
      clear hcell
      have HT := Lib.hid (show l.take k = l from List.take_of_length_le (by omega))
      go_wp2
      go_ret2
      exact ⟨.inl ⟨by rw [← HT.out]; exact hp, by rw [HT.out]; rfl⟩, _, rfl⟩
end

section
open Go Go.RowKit

/-- The value of a product of numbers: the lists U, D. -/
def Pr (w : World) (v : Value) (U D : List Nat) : Prop := ∃ s1 s2, v = .agg #[s1, s2] ∧ Sl w 1 s1 (u64s U) ∧ Sl w 1 s2 (u64s D)
theorem Pr.below {w w' : World} {v : Value} {U D : List Nat} (h : Pr w v U D) (hb : Below w.heap.size w w') : Pr w' v U D := by
  obtain ⟨s1, s2, rfl, h1, h2⟩ := h
  exact ⟨s1, s2, rfl, h1.below hb, h2.below hb⟩

/-- What a box of two nil slices is asked for, and what storing into it leaves. -/
theorem box2 {w : World} {b : Nat} {t : TypeId} (hb : w.heap[b]? = some (.cells #[.slice none 0 0, .slice none 0 0] t (0, 0))) :
    w.cell? ⟨b, 0, none⟩ = some (.slice none 0 0) ∧ w.cell? ⟨b, 1, none⟩ = some (.slice none 0 0) ∧ w.frozen? ⟨b, 0, none⟩ = false ∧ w.frozen? ⟨b, 1, none⟩ = false :=
  ⟨cell_of_row w b 0 _ _ _ hb, cell_of_row w b 1 _ _ _ hb, frozen_of_row w b 0 _ _ hb, frozen_of_row w b 1 _ _ hb⟩
theorem Sl.box2 {w : World} {b : Nat} {t : TypeId} {v : Value} {U : List Nat} (h : Sl w 1 v (u64s U)) (hb : w.heap[b]? = some (.cells #[.slice none 0 0, .slice none 0 0] t (0, 0))) (x y : Value) :
    Sl ((w.setCell ⟨b, 0, none⟩ x).setCell ⟨b, 1, none⟩ y) 1 v (u64s U) := by
  obtain ⟨h0, h1, _, _⟩ := Go.Proofs.YtmibpncmebhbjaaDoor.box2 hb
  refine (h.setCell h0 (u64s_ne _ _ _ _) x).setCell (old := .slice none 0 0) ?_ (u64s_ne _ _ _ _) y
  rw [World.cell?_setCell_other _ _ _ _ (by simp)]
  exact h1
/-- The same, where the box holds other slices. -/
theorem Sl.box_ {w : World} {b : Nat} {v : Value} {U : List Nat} {A A' : Option Addr} {n c n' c' : Nat} (h : Sl w 1 v (u64s U)) (h0 : w.cell? ⟨b, 0, none⟩ = some (.slice A n c)) (h1 : w.cell? ⟨b, 1, none⟩ = some (.slice A' n' c')) (x y : Value) :
    Sl ((w.setCell ⟨b, 0, none⟩ x).setCell ⟨b, 1, none⟩ y) 1 v (u64s U) := by
  refine (h.setCell h0 (u64s_ne _ _ _ _) x).setCell (old := .slice A' n' c') ?_ (u64s_ne _ _ _ _) y
  rw [World.cell?_setCell_other _ _ _ _ (by simp)]
  exact h1
theorem own_stored {w : World} {base : Nat} {e : TypeId} {n g cap : Nat} {l : List Nat} (h : w.ownsRow base e 1 (.slice (some ⟨g, 0, none⟩) n cap) n (u64s l)) (j x : Nat) :
    (w.setCell ⟨g, j, none⟩ (.int .u64 (x : Int))).ownsRow base e 1 (.slice (some ⟨g, 0, none⟩) n cap) n (u64s (l.set j x)) := by
  have := (h.stored j (.int .u64 (x : Int))).1
  rwa [u64s_set] at this
/-- A row of uint64 is no box of a product. -/
theorem own_not_box {w : World} {base n cap g : Nat} {xs : List Value} {cs : Array Value} {e t : TypeId} (h : w.ownsRow base e 1 (.slice (some ⟨g, 0, none⟩) n cap) n xs) (hb : w.heap[g]? = some (.cells cs t (0, 0))) (hne : e ≠ t) : False := by
  rcases h.2 with ⟨h', _⟩ | ⟨g', cap', cur, h', _, hh, _⟩
  · cases h'
  · simp only [Value.slice.injEq, Option.some.injEq, Addr.mk.injEq, and_true, true_and] at h'
    obtain ⟨rfl, rfl⟩ := h'
    rw [hh] at hb
    injection hb with hb
    injection hb with _ hb
    exact hne hb

set_option maxRecDepth 100000 in
set_option maxHeartbeats 1000000 in
theorem reduced_any (v : Value) (U D : List Nat) (w : World) (hv : Pr w v U D) (hU : Ones U) (hD : Ones D) (lU : U.length ≤ 17592186044415) (lD : D.length ≤ 17592186044415) :
    Calls Tryd.prog 121 #[v] w fun e w' => ∃ r U' D', e = .returned r ∧ Below w.heap.size w w' ∧ Pr w' r U' D' ∧ Red U' D' (val U D) ∧ U'.length ≤ U.length ∧ D'.length ≤ D.length := by
  obtain ⟨s1, s2, rfl, hs1, hs2⟩ := hv
  go_enter Tryd.func121, Tryd.ntmps121
  go_upto_region 1 with fail
  have hs1' := (hs1.alloc (.cells #[s1, s2] 121)).alloc (.cells #[.slice none 0 0, .slice none 0 0] 121)
  have hs2' := (hs2.alloc (.cells #[s1, s2] 121)).alloc (.cells #[.slice none 0 0, .slice none 0 0] 121)
  have hb0 : Below w.heap.size w ((w.alloc (.cells #[s1, s2] 121)).alloc (.cells #[.slice none 0 0, .slice none 0 0] 121)) := ((Below.refl _ _).alloc (Nat.le_refl _) _).alloc (by simp) _
  have e0 : ((w.alloc (.cells #[s1, s2] 121)).alloc (.cells #[.slice none 0 0, .slice none 0 0] 121)).cell? ⟨w.heap.size, 0, none⟩ = some s1 := by simp
  have e1 : ((w.alloc (.cells #[s1, s2] 121)).alloc (.cells #[.slice none 0 0, .slice none 0 0] 121)).cell? ⟨w.heap.size, 1, none⟩ = some s2 := by simp
  go_region_held3 (fun w' => w'.cell? ⟨w.heap.size, 0, none⟩ = some s1 ∧ w'.cell? ⟨w.heap.size, 1, none⟩ = some s2) (first | go_keep | exact ⟨hap1.grown.cell e0 (by simp [Value.ownBlock]), hap1.grown.cell e1 (by simp [Value.ownBlock])⟩ | exact ⟨hap2.grown.cell (hap1.grown.cell e0 (by simp [Value.ownBlock])) (by simp [Value.ownBlock]), hap2.grown.cell (hap1.grown.cell e1 (by simp [Value.ownBlock])) (by simp [Value.ownBlock])⟩) (first
    | (refine stepU64 (.const (.slice none 0 0)) (.tmp 9) rfl rfl (by rfl) (by rfl) (World.ownsRow_nil _ w.heap.size _ _) hs1'.drew (u64s_one _) (N := U.length) (by simp [u64s_length]) (by omega) (by simp; omega) ?_; intro A3 c3 w1 hap1)
    | (refine stepU64 (.const (.slice none 0 0)) (.tmp 12) rfl rfl (by rfl) (by rfl) (World.ownsRow_nil _ w.heap.size _ _) (hs2'.drew.below (below_grown hap1.grown (by simp [Value.ownBlock]))) (u64s_one _) (N := D.length) (by simp [u64s_length]) (by omega) (by have := hap1.grown.size; simp at this; omega) ?_; intro A4 c4 w2 hap2))
  have hd : ∀ g g', A3 = some ⟨g, 0, none⟩ → A4 = some ⟨g', 0, none⟩ → g < g' := by
    intro g g' e3 e4
    subst e3; subst e4
    have l3 := hap1.own.lt g rfl
    have := hap2.block
    simp [Value.ownBlock] at this
    omega
  have hown3 := own_below hap1.own (below_grown hap2.grown (by simp [Value.ownBlock]))
  have hown4 := hap2.own
  simp only [List.nil_append] at hown3 hown4
  have hbw : Below w.heap.size w w2 := (below_then (a := w) (below_then (a := w) hb0.drew (below_grown hap1.grown (by simp [Value.ownBlock]))) (below_grown hap2.grown (by simp [Value.ownBlock])))
  have hres : w2.heap[w.heap.size + 1]? = some (.cells #[.slice none 0 0, .slice none 0 0] 121 (0, 0)) := by
    have h1 := hap1.grown.size
    simp at h1
    rw [hap2.grown.block _ (by omega) (by simp [Value.ownBlock]), hap1.grown.block _ (by simp) (by simp [Value.ownBlock])]
    exact heap_alloc2_new _ _ _
  have f3 : 0 < U.length → ∃ g, A3 = some ⟨g, 0, none⟩ ∧ w.heap.size ≤ g ∧ g < w1.heap.size := by
    obtain ⟨A, c, e, _, _, h⟩ := own_slice hap1.own
    cases e
    exact h
  have f4 : 0 < D.length → ∃ g, A4 = some ⟨g, 0, none⟩ ∧ w.heap.size ≤ g ∧ g < w2.heap.size := by
    obtain ⟨A, c, e, _, _, h⟩ := own_slice hap2.own
    cases e
    exact h
  have hst := Canc.start hU hD
  clear hap1 hap2 hs1' hs2' e0 e1 hb0 hs1 hs2
  go_wp2
  go_loopw [16] (fun i wr => ∃ (k : Nat) (U' D' : List Nat), k ≤ U.length ∧ i = .int .i64 k ∧ wr.ownsRow w.heap.size 117 1 (.slice A3 U.length c3) U.length (u64s U') ∧ wr.ownsRow w.heap.size 117 1 (.slice A4 D.length c4) D.length (u64s D') ∧
      Canc U D U' D' k 0 ∧ Below w.heap.size w wr ∧ wr.heap[w.heap.size + 1]? = some (.cells #[.slice none 0 0, .slice none 0 0] 121 (0, 0))) (fun i _ => U.length - (intOf i).toNat)
  case atStart => exact ⟨0, U, D, by omega, rfl, hown3, hown4, hst, hbw, hres⟩
  case round =>
    clear hown3 hown4 hst hbw hres
    obtain ⟨k, U', D', hk, rfl, hown3, hown4, hst, hbw, hres⟩ := hrel
    by_cases hlt : k < U.length
    · go_wp2
      go_loopw [21] (fun j wr => ∃ (m : Nat) (U' D' : List Nat), m ≤ D.length ∧ j = .int .i64 m ∧ wr.ownsRow w.heap.size 117 1 (.slice A3 U.length c3) U.length (u64s U') ∧ wr.ownsRow w.heap.size 117 1 (.slice A4 D.length c4) D.length (u64s D') ∧
          Canc U D U' D' k m ∧ Below w.heap.size w wr ∧ wr.heap[w.heap.size + 1]? = some (.cells #[.slice none 0 0, .slice none 0 0] 121 (0, 0))) (fun j _ => D.length - (intOf j).toNat)
      case atStart => exact ⟨0, U', D', by omega, rfl, hown3, hown4, hst, hbw, hres⟩
      case round =>
        clear hown3 hown4 hst hbw hres
        obtain ⟨m, U', D', hm, rfl, hown3, hown4, hst, hbw, hres⟩ := hrel
        by_cases hlm : m < D.length
        · obtain ⟨g3, rfl, hg3, hg3'⟩ := f3 (by omega)
          obtain ⟨g4, rfl, hg4, hg4'⟩ := f4 (by omega)
          have hne : ¬ g3 = g4 := by have := hd g3 g4 rfl rfl; omega
          have hne' : ¬ g4 = g3 := by omega
          have hkU : k < U'.length := by rw [hst.lenU]; exact hlt
          have hmD : m < D'.length := by rw [hst.lenD]; exact hlm
          have hcu : wr.cell? ⟨g3, k, none⟩ = some (.int .u64 (U'[k] : Int)) := (hown3.cellAt k (by omega)).trans (u64s_get hkU)
          have hcd : wr.cell? ⟨g4, m, none⟩ = some (.int .u64 (D'[m] : Int)) := (hown4.cellAt m (by omega)).trans (u64s_get hmD)
          have hfu := hown3.frozenAt k
          have hfd := hown4.frozenAt m
          have bu := hst.onesU.get hkU
          have bd := hst.onesD.get hmD
          obtain ⟨g, hg⟩ : ∃ g, g = Nat.gcd U'[k] D'[m] := ⟨_, rfl⟩
          have hg1 : 0 < g := by rw [hg]; exact Nat.gcd_pos_of_pos_left _ (by omega)
          have HCom : Hid (∀ W : World, Calls Tryd.prog 90 #[.int .u64 (U'[k] : Int), .int .u64 (D'[m] : Int)] W fun e w' => e = .returned (.int .u64 (g : Int)) ∧ ∃ n, w' = W.drewN n) :=
            fun W => by rw [hg, Nat.gcd_comm]; exact common_any _ _ W bu.2 bd.2
          have HST := Lib.hid (hst.step hkU hmD g hg)
          clear hg
          generalize hu : U'[k] = x at *
          generalize hv : D'[m] = y at *
          have HU := Lib.hid hu
          have HV := Lib.hid hv
          clear hu hv
          go_wp2
          go_quiet ((go_at_call 90; exact Calls.quiet_of (HCom.out _)))
          go_wp2
          have hs3 := (hown3.stored k (.int .u64 ((x / g : Nat) : Int))).1
          have hs4 := (hown4.stored m (.int .u64 ((y / g : Nat) : Int))).1
          rw [u64s_set] at hs3 hs4
          have n3 := ownsRow_setCell_other (own_drewN hs3 nq) (a := ⟨g4, m, none⟩) (by simpa [Value.ownBlock] using hne) (.int .u64 ((y / g : Nat) : Int))
          go_roundw
          case rel =>
            refine ⟨m + 1, U'.set k (x / g), D'.set m (y / g), by omega, by go_num, ?_, ?_, HST.out, ?_, ?_⟩
            all_goals rw [wrap_div x g bu.2, wrap_div y g bd.2]
            · exact n3
            · exact (own_stored (ownsRow_setCell_other (own_drewN hown4 nq) (a := ⟨g3, k, none⟩) (by simpa [Value.ownBlock] using hne') (.int .u64 ((x / g : Nat) : Int))) m (y / g))
            · exact ((below_drewN hbw nq).setCell (p := ⟨g3, k, none⟩) hg3 _).setCell (p := ⟨g4, m, none⟩) hg4 _
            · rw [heap_setCell_other _ ⟨g4, m, none⟩ _ _ (by rintro e; exact own_not_box (by rw [e]; exact hown4) hres (by decide)), heap_setCell_other _ ⟨g3, k, none⟩ _ _ (by rintro e; exact own_not_box (by rw [e]; exact hown3) hres (by decide))]
              exact hres
          case measure => simp [intOf]; omega
        · have : m = D.length := by omega
          subst this
          go_wp2
          go_roundw
          case rel => exact ⟨k + 1, U', D', by omega, by go_num, hown3, hown4, (by rw [← hst.lenD] at hst; exact hst.next), hbw, hres⟩
          case measure => simp [intOf]; omega
    · have : k = U.length := by omega
      subst this
      have HST := Lib.hid hst
      clear hst
      go_wp2_with fail
      refine (trimmed_any _ U' _ (Sl.of_own hown3) (by rw [HST.out.lenU]; omega)).mono ?_
      rintro e w3 ⟨r1, rfl, hb3, hsl1⟩
      obtain ⟨A5, c5, rfl, hsl1⟩ := own_shape hsl1
      have hres3 := (hb3.block _ (lt_of_block hres)).trans hres
      go_wp2_with fail
      refine (trimmed_any _ D' _ ((Sl.of_own hown4).below hb3) (by rw [HST.out.lenD]; omega)).mono ?_
      rintro e w4 ⟨r2, rfl, hb4, hsl2⟩
      obtain ⟨A6, c6, rfl, hsl2⟩ := own_shape hsl2
      have hres4 := (hb4.block _ (lt_of_block hres3)).trans hres3
      have c0 := cell_of_row w4 _ 0 _ _ _ hres4
      have c1 := cell_of_row w4 _ 1 _ _ _ hres4
      have z0 := frozen_of_row w4 _ 0 _ _ hres4
      have z1 := frozen_of_row w4 _ 1 _ _ hres4
      simp at c0 c1
      go_wp2
      have l0 := hbw.size
      have l1 := lt_of_block hres
      have l3 := hb3.size
      have o1 := Sl.of_own (ownsRow_setCell_below (ownsRow_setCell_below (own_below hsl1 hb4) (a := ⟨w.heap.size + 1, 0, none⟩) (by simpa using l1) (.slice A5 (strike U').length c5)) (a := ⟨w.heap.size + 1, 1, none⟩) (by simpa using l1) (.slice A6 (strike D').length c6))
      have o2 := Sl.of_own (ownsRow_setCell_below (ownsRow_setCell_below hsl2 (a := ⟨w.heap.size + 1, 0, none⟩) (by simp; omega) (.slice A5 (strike U').length c5)) (a := ⟨w.heap.size + 1, 1, none⟩) (by simp; omega) (.slice A6 (strike D').length c6))
      have hbe : Below w.heap.size w ((w4.setCell ⟨w.heap.size + 1, 0, none⟩ (.slice A5 (strike U').length c5)).setCell ⟨w.heap.size + 1, 1, none⟩ (.slice A6 (strike D').length c6)) :=
        ((below_then (below_then hbw hb3) hb4).setCell (p := ⟨w.heap.size + 1, 0, none⟩) (by simp) _).setCell (p := ⟨w.heap.size + 1, 1, none⟩) (by simp) _
      exact bodyPost_ret (v := .agg #[.slice A5 (strike U').length c5, .slice A6 (strike D').length c6]) (by simp [results, Tryd.results121, go_sem, c0, c1]) rfl
        ⟨_, strike U', strike D', rfl, hbe, ⟨_, _, rfl, o1, o2⟩, (by have h := HST.out; have e := h.lenU; rw [← e] at h; exact h.red), by have := strike_length U'; rw [HST.out.lenU] at this; exact this, by have := strike_length D'; rw [HST.out.lenD] at this; exact this⟩
end

section
open Go Go.RowKit

/-- A product's value, with the shapes of its slices. -/
theorem Pr.shape {w : World} {v : Value} {U D : List Nat} (h : Pr w v U D) : ∃ A n c B m d, v = .agg #[.slice A n c, .slice B m d] ∧ Sl w 1 (.slice A n c) (u64s U) ∧ Sl w 1 (.slice B m d) (u64s D) := by
  obtain ⟨s1, s2, rfl, h1, h2⟩ := h
  obtain ⟨A, n, c, rfl, h1⟩ := h1.shape
  obtain ⟨B, m, d, rfl, h2⟩ := h2.shape
  exact ⟨A, n, c, B, m, d, rfl, h1, h2⟩

set_option maxRecDepth 100000 in
set_option maxHeartbeats 1000000 in
theorem times_any (v u : Value) (U D U' D' : List Nat) (w : World) (hv : Pr w v U D) (hu : Pr w u U' D') (hU : Ones U) (hD : Ones D) (hU' : Ones U') (hD' : Ones D')
    (lU : U.length + U'.length ≤ 17592186044415) (lD : D.length + D'.length ≤ 17592186044415) :
    Calls Tryd.prog 104 #[v, u] w fun e w' => ∃ r X Y, e = .returned r ∧ Below w.heap.size w w' ∧ Pr w' r X Y ∧ Red X Y (val U D * val U' D') ∧ X.length ≤ U.length + U'.length ∧ Y.length ≤ D.length + D'.length := by
  obtain ⟨A, n, c, B, m, d, rfl, hs1, hs2⟩ := hv.shape
  obtain ⟨A', n', c', B', m', d', rfl, hs3, hs4⟩ := hu.shape
  obtain ⟨W, hW⟩ : ∃ W, ((w.alloc (.cells #[.slice A n c, .slice B m d] 121)).alloc (.cells #[.slice A' n' c', .slice B' m' d'] 121)).alloc (.cells #[.slice none 0 0, .slice none 0 0] 121) = W := ⟨_, rfl⟩
  have hwW : Below w.heap.size w W := by rw [← hW]; exact (((Below.refl _ _).alloc (Nat.le_refl _) _).alloc (by simp) _).alloc (by simp; omega) _
  have sW : W.heap.size = w.heap.size + 3 := by rw [← hW]; simp
  have b0 : W.heap[w.heap.size]? = some (.cells #[.slice A n c, .slice B m d] 121 (0, 0)) := by
    rw [← hW]; exact (Below.heap_alloc _ _ _ (by simp; omega)).trans (heap_alloc2_old _ _ _)
  have b1 : W.heap[w.heap.size + 1]? = some (.cells #[.slice A' n' c', .slice B' m' d'] 121 (0, 0)) := by
    rw [← hW]; exact (Below.heap_alloc _ _ _ (by simp)).trans (heap_alloc2_new _ _ _)
  have b2 : W.heap[w.heap.size + 1 + 1]? = some (.cells #[.slice none 0 0, .slice none 0 0] 121 (0, 0)) := by
    rw [← hW]
    have := heap_alloc_new ((w.alloc (.cells #[.slice A n c, .slice B m d] 121)).alloc (.cells #[.slice A' n' c', .slice B' m' d'] 121)) (.cells #[.slice none 0 0, .slice none 0 0] 121)
    simpa using this
  have HK : Hid (∀ w', Below W.heap.size W w' → w'.cell? ⟨w.heap.size, 0, none⟩ = some (.slice A n c) ∧ w'.cell? ⟨w.heap.size, 1, none⟩ = some (.slice B m d) ∧ w'.cell? ⟨w.heap.size + 1, 0, none⟩ = some (.slice A' n' c') ∧ w'.cell? ⟨w.heap.size + 1, 1, none⟩ = some (.slice B' m' d')) := by
    intro w' hb
    have c0 := (hb.block _ (lt_of_block b0)).trans b0
    have c1 := (hb.block _ (lt_of_block b1)).trans b1
    exact ⟨cell_of_row w' _ 0 _ _ _ c0, cell_of_row w' _ 1 _ _ _ c0, cell_of_row w' _ 0 _ _ _ c1, cell_of_row w' _ 1 _ _ _ c1⟩
  have HS1 := Lib.hid (hs1.below hwW)
  have HS2 := Lib.hid (hs2.below hwW)
  have HS3 := Lib.hid (hs3.below hwW)
  have HS4 := Lib.hid (hs4.below hwW)
  have hsz : w.heap.size + 3 ≤ W.heap.size := by omega
  have HB0 := Lib.hid b0
  have HB1 := Lib.hid b1
  have HB2 := Lib.hid b2
  clear b0 b1 b2 sW hs1 hs2 hs3 hs4
  go_enter Tryd.func104, Tryd.ntmps104
  go_upto_region 1 with fail
  obtain ⟨k0, k1, k2, k3⟩ := HK.out W (Below.refl _ _)
  go_region_held3? (fun w' => w'.cell? ⟨w.heap.size, 0, none⟩ = some (.slice A n c) ∧ w'.cell? ⟨w.heap.size, 1, none⟩ = some (.slice B m d) ∧ w'.cell? ⟨w.heap.size + 1, 0, none⟩ = some (.slice A' n' c') ∧ w'.cell? ⟨w.heap.size + 1, 1, none⟩ = some (.slice B' m' d'))
    (first | go_keep | exact HK.out _ hbl1 | exact HK.out _ hbl2 | exact HK.out _ hbl3 | exact HK.out _ hbl4 | exact HK.out _ hbl5) (first
    | (refine stepU64 (.const (.slice none 0 0)) (.tmp 6) rfl rfl (by rfl) (by rfl) (World.ownsRow_nil _ W.heap.size _ _) HS1.out.drew (u64s_one _) (N := U.length) (by simp [u64s_length]) (by omega) (by exact Nat.le_refl _) ?_; intro A1 c1 w1 hap1; have hbl1 : Below W.heap.size W w1 := below_grown (grown_undrew hap1.grown) (by simp [Value.ownBlock]))
    | (refine stepU64 (.tmp 7) (.tmp 9) rfl rfl (by rfl) (by rfl) hap1.own (HS3.out.below hbl1) (u64s_one _) (N := U.length + U'.length) (by simp [u64s_length]) (by omega) hbl1.size ?_; intro A2 c2 w2 hap2; have hbl2 : Below W.heap.size W w2 := below_of_own hap2.grown hap1.own hbl1 (Nat.le_refl _))
    | (refine stepU64 (.const (.slice none 0 0)) (.tmp 12) rfl rfl (by rfl) (by rfl) (World.ownsRow_nil _ w2.heap.size _ _) (HS2.out.below hbl2) (u64s_one _) (N := D.length) (by simp [u64s_length]) (by omega) (by exact Nat.le_refl _) ?_; intro A3 c3 w3 hap3; have hb23 : Below w2.heap.size w2 w3 := below_grown hap3.grown (by simp [Value.ownBlock]); have hbl3 : Below W.heap.size W w3 := below_then hbl2 hb23)
    | (refine stepU64 (.tmp 13) (.tmp 15) rfl rfl (by rfl) (by rfl) hap3.own (HS4.out.below hbl3) (u64s_one _) (N := D.length + D'.length) (by simp [u64s_length]) (by omega) hb23.size ?_; intro A4 c4 w4 hap4; have hb24 : Below w2.heap.size w2 w4 := below_of_own hap4.grown hap3.own hb23 (Nat.le_refl _); have hbl4 : Below W.heap.size W w4 := below_then hbl2 hb24)
    | (go_at_call 121; refine (reduced_any _ (U ++ U') (D ++ D') _ ⟨_, _, rfl, by rw [u64s_append]; exact Sl.of_own (own_below hap2.own hb24), by rw [u64s_append]; exact Sl.of_own hap4.own⟩ (hU.append hU') (hD.append hD') (by simp; omega) (by simp; omega)).mono ?_; rintro e w5 ⟨r, X, Y, rfl, hb5, hpr, hred, hlx, hly⟩; have hbl5 : Below W.heap.size W w5 := below_then hbl4 hb5; obtain ⟨A7, n7, c7, B7, m7, d7, rfl, hq1, hq2⟩ := hpr.shape; have b5 := (hbl5.block _ (lt_of_block HB2.out)).trans HB2.out; obtain ⟨q0, q1, z0, z1⟩ := box2 b5; obtain ⟨l0, l1, l2, l3⟩ := HK.out _ hbl5; have ne1 : ¬ (w.heap.size + 1 + 1 = w.heap.size) := (by omega); have ne2 : ¬ (w.heap.size = w.heap.size + 1 + 1) := (by omega)))
  go_wp2
  exact bodyPost_ret (v := .agg #[.slice A7 n7 c7, .slice B7 m7 d7]) (by simp [results, Tryd.results104, go_sem, q0, q1]) rfl
    ⟨_, X, Y, rfl, ((below_then hwW hbl5).setCell (p := ⟨w.heap.size + 1 + 1, 0, none⟩) (by simp; omega) _).setCell (p := ⟨w.heap.size + 1 + 1, 1, none⟩) (by simp; omega) _, ⟨_, _, rfl, hq1.box2 b5 _ _, hq2.box2 b5 _ _⟩, by rw [← val_append hD hD']; exact hred, by simpa using hlx, by simpa using hly⟩

set_option maxRecDepth 100000 in
set_option maxHeartbeats 1000000 in
theorem turned_any (v : Value) (U D : List Nat) (w : World) (hv : Pr w v U D) :
    Calls Tryd.prog 125 #[v] w fun e w' => ∃ r, e = .returned r ∧ Below w.heap.size w w' ∧ Pr w' r D U := by
  obtain ⟨A, n, c, B, m, d, rfl, hs1, hs2⟩ := hv.shape
  go_enter Tryd.func125, Tryd.ntmps125
  go_wp2
  have hb : ((w.alloc (.cells #[.slice A n c, .slice B m d] 121)).alloc (.cells #[.slice none 0 0, .slice none 0 0] 121)).heap[w.heap.size + 1]? = some (.cells #[.slice none 0 0, .slice none 0 0] 121 (0, 0)) := heap_alloc2_new _ _ _
  obtain ⟨q0, q1, z0, z1⟩ := box2 hb
  exact bodyPost_ret (v := .agg #[.slice B m d, .slice A n c]) (by simp [results, Tryd.results125, go_sem]) rfl
    ⟨_, rfl, (((Below.refl w.heap.size w).alloc (Nat.le_refl _) _).alloc (by simp) _), ⟨_, _, rfl, (hs2.alloc _).alloc _, (hs1.alloc _).alloc _⟩⟩

set_option maxRecDepth 100000 in
set_option maxHeartbeats 1000000 in
theorem one_any (v : Value) (U D : List Nat) (w : World) (hv : Pr w v U D) :
    Calls Tryd.prog 126 #[v] w fun e w' => e = .returned (.bool (decide (U = [] ∧ D = []))) ∧ Below w.heap.size w w' := by
  obtain ⟨s1, s2, rfl, hs1, hs2⟩ := hv
  obtain ⟨A, c, rfl, _⟩ := hs1.open1
  obtain ⟨B, d, rfl, _⟩ := hs2.open1
  simp only [u64s_length]
  go_enter Tryd.func126, Tryd.ntmps126
  go_wp2
  all_goals
    go_ret
    refine ⟨ret_bool ?_, below_alloc' _ _⟩
  · have h : U = [] := by assumption
    subst h
    cases D <;> simp
    omega
  · have h : ¬ U = [] := by assumption
    simp [h]
end
end Go.Proofs.YtmibpncmebhbjaaDoor
