/- Contracts and small lemmas, taken over from other texts by a program (wip/shake.py). No condition beyond those stated. -/
import Derived.WalkKit
import Derived.WalkLawsBesides
import Derived.WalkSpells
import Derived.Lib.Hide
import Derived.Deep.Draws
import Derived.Deep.AppendLies
import Derived.Maps.AppendAt
import Derived.Outline
import Derived.BigQuiet
import Derived.Deep.QuietTactic
import Derived.Deep.RegionHeld3
import Derived.Deep.DrawnRows
import Derived.Deep.DeepCutAuto
import Derived.Deep.DeepFit
import Derived.Test.YtdmcopjbckelmaaGreatDoorProg
import Derived.Shelf.Bits.Mul64
import Derived.RangeFuncNested
import Derived.RangeFuncBound
import Derived.RangeFuncCalls
import Derived.RangeFuncLeaves
import Derived.Shelf.Abstract
import Derived.Shelf.RegionOpen
import Derived.OwnWalkIn
import Derived.TacticsInMore
import Derived.LoopNIn
import Derived.LoopIn
import Derived.Maps.OwnIn
import Derived.Deep.OwnRows
import Derived.Test.YtdmcopjbckelmaaGreatDoorRows
import Derived.ProofKit
import Derived.LaidMore
import Derived.OpenShut
import Derived.Stop.Joined
import Derived.Deep.RegionLaw
namespace Go.Proofs.YtdmcopjbckelmaaGreatDoor
section
-- Lib
open Go Go.RowKit
/-- The slice value v (elements of s cells) reads as the cells xs. -/
def Sl (w : World) (s : Nat) (v : Value) (xs : List Value) : Prop :=
  ∃ A n c, v = .slice A n c ∧ xs.length = n * s ∧ n ≤ c ∧ (c : Int) ≤ 9223372036854775807 ∧ (0 < n → ∃ ad, A = some ad ∧ ∀ j u, xs[j]? = some u → w.cell? (ad.add j) = some u)
theorem block_add (a : Addr) (n : Nat) : (a.add n).block = a.block := by unfold Addr.add; split <;> rfl
theorem add_zero' (a : Addr) : a.add 0 = a := rfl
theorem below_drewN {B : Nat} {a w : World} (h : Below B a w) (n : Nat) : Below B a (w.drewN n) := ⟨h.os, h.tape, h.output, h.size, h.block⟩
theorem below_alloc' (w : World) (o : Obj) : Below w.heap.size w (w.alloc o) := (Below.refl _ _).alloc (Nat.le_refl _) _
/-- Two steps, each keeping what lay when it began. -/
theorem below_then {a b c : World} (h : Below a.heap.size a b) (k : Below b.heap.size b c) : Below a.heap.size a c := h.trans (k.mono h.size)
theorem below_cell {a b : World} (h : Below a.heap.size a b) {p : Addr} {v : Value} (hc : a.cell? p = some v) : b.cell? p = some v := (h.cell (block_lt_of_cell hc)).trans hc
theorem below_grown {a b : World} {row : Option Nat} (h : a.grownBy b row) (hr : ∀ g, row = some g → a.heap.size ≤ g) : Below a.heap.size a b :=
  ⟨h.os, h.tape, h.output, h.size, fun k hk => h.block k hk (fun e => by have := hr k e.symm; omega)⟩
theorem grown_refl (w : World) (row : Option Nat) : w.grownBy w row := ⟨rfl, rfl, rfl, Nat.le_refl _, fun _ _ _ => rfl⟩
section
variable {w w' : World} {s : Nat} {v : Value} {xs : List Value}
theorem Sl.keep (h : Sl w s v xs) (hk : ∀ p u, w.cell? p = some u → w'.cell? p = some u) : Sl w' s v xs := by
  obtain ⟨A, n, c, rfl, hl, hc, hm, hcell⟩ := h
  exact ⟨A, n, c, rfl, hl, hc, hm, fun hn => by
    obtain ⟨ad, e, hc⟩ := hcell hn
    exact ⟨ad, e, fun j u hu => hk _ _ (hc j u hu)⟩⟩
theorem Sl.below (h : Sl w s v xs) (hb : Below w.heap.size w w') : Sl w' s v xs := h.keep fun _ _ hc => below_cell hb hc
theorem Sl.drewN (h : Sl w s v xs) (n : Nat) : Sl (w.drewN n) s v xs := h
theorem Sl.drew (h : Sl w s v xs) : Sl w.drew s v xs := h
theorem Sl.alloc (h : Sl w s v xs) (o : Obj) : Sl (w.alloc o) s v xs := h.below (below_alloc' w o)
/-- A store into a cell that holds what is no element. -/
theorem Sl.setCell (h : Sl w s v xs) {p : Addr} {old : Value} (hp : w.cell? p = some old) (hne : ∀ u ∈ xs, u ≠ old) (x : Value) : Sl (w.setCell p x) s v xs := by
  obtain ⟨A, n, c, rfl, hl, hc, hm, hcell⟩ := h
  refine ⟨A, n, c, rfl, hl, hc, hm, fun hn => ?_⟩
  obtain ⟨ad, e, hc⟩ := hcell hn
  refine ⟨ad, e, fun j u hu => ?_⟩
  have h1 := hc j u hu
  rw [World.cell?_setCell_other]
  · exact h1
  · rintro rfl
    rw [hp] at h1
    injection h1 with h1
    exact hne u (List.mem_of_getElem? hu) h1.symm
theorem Sl.nil (w : World) (s c : Nat) (h : (c : Int) ≤ 9223372036854775807) : Sl w s (.slice none 0 c) [] := ⟨none, 0, c, rfl, by simp, by omega, h, fun h => absurd h (by omega)⟩
theorem Sl.nil0 (w : World) (s : Nat) : Sl w s (.slice none 0 0) [] := Sl.nil w s 0 (by omega)
theorem Sl.of_own {base : Nat} {e : TypeId} {n : Nat} (h : w.ownsRow base e s v n xs) : Sl w s v xs := by
  obtain ⟨hl, ⟨rfl, rfl⟩ | ⟨g, cap, cur, rfl, hb, hh, hnc, hcm, hs, ht⟩⟩ := h
  · have : xs = [] := List.eq_nil_of_length_eq_zero (by simpa using hl)
    subst this
    exact Sl.nil0 w s
  · have hown : w.ownsRow base e s (.slice (some ⟨g, 0, none⟩) n cap) n xs := ⟨hl, .inr ⟨g, cap, cur, rfl, hb, hh, hnc, hcm, hs, ht⟩⟩
    exact ⟨_, n, cap, rfl, hl, hnc, by unfold maxLen at hcm; omega, fun _ => ⟨_, rfl, hown.cells (g := g) rfl⟩⟩
/-- A literal's row: a new block whose first cells are the elements. -/
theorem Sl.new (w : World) (t : TypeId) (n c : Nat) (cs : Array Value) (hl : cs.size = n * s) (hc : n ≤ c) (hm : (c : Int) ≤ 9223372036854775807) :
    Sl (w.alloc (.cells cs t)) s (.slice (some ⟨w.heap.size, 0, none⟩) n c) cs.toList :=
  ⟨_, n, c, rfl, by simpa using hl, hc, hm, fun _ => ⟨_, rfl, fun j u hu => by
    have : (⟨w.heap.size, 0, none⟩ : Addr).add j = ⟨w.heap.size, j, none⟩ := by unfold Addr.add; split <;> simp_all
    rw [this, World.cell?_alloc_new]
    simpa using hu⟩⟩
end
/-- The shape of a slice's value, and the rest kept. -/
theorem Sl.shape {w : World} {s : Nat} {v : Value} {xs : List Value} (h : Sl w s v xs) : ∃ A n c, v = .slice A n c ∧ Sl w s (.slice A n c) xs := by
  obtain ⟨A, n, c, rfl, r⟩ := h
  exact ⟨A, n, c, rfl, A, n, c, rfl, r⟩
/-- What a slice of one-cell elements is when the walk asks. -/
theorem Sl.open1 {w : World} {v : Value} {xs : List Value} (h : Sl w 1 v xs) : ∃ A c, v = .slice A xs.length c ∧ xs.length ≤ c ∧ (c : Int) ≤ 9223372036854775807 ∧ (∀ k u, xs[k]? = some u → ∃ ad, A = some ad ∧ w.cell? (ad.add k) = some u) := by
  obtain ⟨A, n, c, rfl, hl, hc, hm, hcell⟩ := h
  have : xs.length = n := by omega
  subst this
  exact ⟨A, c, rfl, hc, hm, fun k u hu => by
    have hk : k < xs.length := by
      rcases Nat.lt_or_ge k xs.length with h | h
      · exact h
      · rw [List.getElem?_eq_none h] at hu; cases hu
    obtain ⟨ad, e, hc⟩ := hcell (by omega)
    exact ⟨ad, e, hc k u hu⟩⟩
/-- A slice of elements of s cells, its address written out. -/
theorem Sl.open2 {w : World} {s : Nat} {v : Value} {xs : List Value} (h : Sl w s v xs) (hs : 0 < s) : ∃ A n c, v = .slice A n c ∧ xs.length = n * s ∧ n ≤ c ∧ (c : Int) ≤ 9223372036854775807 ∧
    (0 < n → ∃ b o, A = some ⟨b, o, none⟩ ∧ b < w.heap.size ∧ ∀ j u, xs[j]? = some u → w.cell? ⟨b, o + j, none⟩ = some u) := by
  obtain ⟨A, n, c, rfl, hl, hc, hm, hcell⟩ := h
  refine ⟨A, n, c, rfl, hl, hc, hm, fun hn => ?_⟩
  obtain ⟨ad, rfl, hcl⟩ := hcell hn
  have h0 : 0 < xs.length := by rw [hl]; exact Nat.mul_pos hn hs
  obtain ⟨u, hu⟩ : ∃ u, xs[0]? = some u := ⟨xs[0], by simp [h0]⟩
  have hu' := hcl 0 u hu
  have hsp : ad.spot = none := by
    rw [add_zero'] at hu'
    unfold World.cell? at hu'
    split at hu'
    · by_cases hs : ad.spot.isSome
      · simp [hs] at hu'
      · simpa using hs
    · cases hu'
  obtain ⟨b, o, sp⟩ := ad
  simp only at hsp
  subst hsp
  have hb := block_lt_of_cell hu'
  rw [block_add] at hb
  refine ⟨b, o, rfl, hb, fun j u hj => ?_⟩
  have := hcl j u hj
  rwa [show (⟨b, o, none⟩ : Addr).add j = ⟨b, o + j, none⟩ from by unfold Addr.add; split <;> simp_all] at this
/-- An owned row is a slice of n elements. -/
theorem own_slice {w : World} {base : Nat} {e : TypeId} {size n : Nat} {v : Value} {xs : List Value} (h : w.ownsRow base e size v n xs) :
    ∃ A c, v = .slice A n c ∧ n ≤ c ∧ (c : Int) ≤ 9223372036854775807 ∧ (0 < n → ∃ g, A = some ⟨g, 0, none⟩ ∧ base ≤ g ∧ g < w.heap.size) := by
  obtain ⟨hl, ⟨rfl, rfl⟩ | ⟨g, cap, cur, rfl, hb, hh, hnc, hcm, hs, ht⟩⟩ := h
  · exact ⟨none, 0, rfl, by omega, by omega, fun h => absurd h (by omega)⟩
  · refine ⟨some ⟨g, 0, none⟩, cap, rfl, hnc, by unfold maxLen at hcm; omega, fun _ => ⟨g, rfl, hb, ?_⟩⟩
    rcases Nat.lt_or_ge g w.heap.size with h | h
    · exact h
    · rw [Array.getElem?_eq_none h] at hh; cases hh
theorem own_shape {w : World} {base : Nat} {e : TypeId} {size n : Nat} {v : Value} {xs : List Value} (h : w.ownsRow base e size v n xs) : ∃ A c, v = .slice A n c ∧ w.ownsRow base e size (.slice A n c) n xs := by
  obtain ⟨A, c, rfl, _⟩ := own_slice h
  exact ⟨A, c, rfl, h⟩
theorem own_below {w w' : World} {base : Nat} {e : TypeId} {size n : Nat} {v : Value} {xs : List Value} (h : w.ownsRow base e size v n xs) (hb : Below w.heap.size w w') : w'.ownsRow base e size v n xs := by
  obtain ⟨hl, ⟨rfl, rfl⟩ | ⟨g, cap, cur, rfl, hg, hh, r⟩⟩ := h
  · exact ⟨hl, .inl ⟨rfl, rfl⟩⟩
  · refine ⟨hl, .inr ⟨g, cap, cur, rfl, hg, ?_, r⟩⟩
    rw [hb.block g (by
      rcases Nat.lt_or_ge g w.heap.size with h | h
      · exact h
      · rw [Array.getElem?_eq_none h] at hh; cases hh)]
    exact hh
section
variable {P : Program} (w : World)
theorem run_app (base : Nat) (t ty e : TypeId) (i : TypeInfo) (z : Value) (size bytes : Nat) (ht : P.underlying t = some (.slice e)) (hi : P.info? e = some i) (hz : i.zero = some z)
    (hsize : i.size = size) (hby : i.bytes = bytes) (hzs : z.cells.size = size) (hsz : 0 < size)
    (v : Value) (n : Nat) (xs : List Value) (hown : w.ownsRow base e size v n xs)
    (x : Value) (news : List Value) (hr : Sl w size x news) (h1 : ∀ u ∈ news, u.oneCell' = true)
    (N : Nat) (hN : n * size + news.length = N * size) (hbytes : N * bytes ≤ 140737488355328) (hb0 : 0 < bytes) (hbase : base ≤ w.heap.size) :
    ∃ v' w', (Builtin.append_ #[t, t] ty #[v, x]).run P w = .ok v' w' ∧ w'.ownsRow base e size v' N (xs ++ news) ∧ w.grownBy w' v.ownBlock ∧
      (v'.ownBlock = v.ownBlock ∨ v'.ownBlock = some w.heap.size) := by
  obtain ⟨A, m, c, rfl, hl, hmc, hcm, hcell⟩ := hr
  have hm : n + m = N := by
    rw [hl, ← Nat.add_mul] at hN
    exact Nat.eq_of_mul_eq_mul_right hsz hN
  subst hm
  have hbb : (n + m) * bytes ≤ 140737488355328 := hbytes
  have h63 : n + m ≤ maxLen := by
    have : n + m ≤ (n + m) * bytes := Nat.le_mul_of_pos_right _ hb0
    unfold maxLen; omega
  rcases A with _ | ad
  · have h0 : m = 0 := by
      rcases Nat.eq_zero_or_pos m with h0 | h0
      · exact h0
      · obtain ⟨ad, h, _⟩ := hcell h0
        cases h
    subst h0
    have hn : news = [] := List.eq_nil_of_length_eq_zero (by simpa using hl)
    subst hn
    refine ⟨v, w, ?_, by simpa using hown, grown_refl w _, .inl rfl⟩
    rcases hown.2 with ⟨rfl, rfl⟩ | ⟨g, cap, cur, rfl, _, _, hnc, _⟩
    · simp [Builtin.append_, run_underlying ht, sizeOf, typeInfo, hi, Builtin.lenOf, Builtin.firstCells]
    · simp [Builtin.append_, run_underlying ht, sizeOf, typeInfo, hi, Builtin.lenOf, Builtin.firstCells, hnc, storeCells]
  · have hcells : ∀ j u, news[j]? = some u → w.cell? (ad.add j) = some u := by
      intro j u hu
      rcases Nat.eq_zero_or_pos m with h0 | h0
      · subst h0
        have hn : news = [] := List.eq_nil_of_length_eq_zero (by simpa using hl)
        subst hn
        simp at hu
      · obtain ⟨ad', h, hc⟩ := hcell h0
        injection h with h
        subst h
        exact hc j u hu
    obtain ⟨v', w', hrun, h2, h3, _, h5⟩ := run_append_own_at (P := P) w base t ty e i z size bytes ht hi hz hsize hby hzs hsz v n xs hown ad m c news hl hcells h1 h63 hbb hbase
    exact ⟨v', w', hrun, h2, h3, h5⟩
/-- What an append onto a row of the call's own leaves. -/
structure Appended (base : Nat) (e : TypeId) (size : Nat) (v : Value) (xs news : List Value) (w w' : World) (A : Option Addr) (n c : Nat) : Prop where
  own : w'.ownsRow base e size (.slice A n c) n (xs ++ news)
  grown : w.grownBy w' v.ownBlock
  block : (Value.slice A n c).ownBlock = v.ownBlock ∨ (Value.slice A n c).ownBlock = some w.heap.size
  cap : n ≤ c
  capm : (c : Int) ≤ 9223372036854775807
theorem wp_app {o : Oper} {a : Act} {K : Act → World → Prop} {Q : Exit → Act → World → Prop} (s x : Operand) (t : TypeId)
    (ho : o.op = .call { callee := .builtin .append, args := #[s, x], argTypes := #[t, t] })
    (base : Nat) (e : TypeId) (i : TypeInfo) (z : Value) (size bytes : Nat) (ht : P.underlying t = some (.slice e)) (hi : P.info? e = some i) (hz : i.zero = some z)
    (hsize : i.size = size) (hby : i.bytes = bytes) (hzs : z.cells.size = size) (hsz : 0 < size)
    (v : Value) (n : Nat) (xs : List Value) (hs : a.eval s = v) (hown : w.ownsRow base e size v n xs)
    (vx : Value) (news : List Value) (hx : a.eval x = vx) (hr : Sl w size vx news) (h1 : ∀ u ∈ news, u.oneCell' = true)
    (N : Nat) (hN : n * size + news.length = N * size) (hbytes : N * bytes ≤ 140737488355328) (hb0 : 0 < bytes) (hbase : base ≤ w.heap.size)
    (h : ∀ A c w', Appended base e size v xs news w w' A N c → K (a.put o.dst (.slice A N c)) w') : o.wp P a w K Q := by
  obtain ⟨v', w', hrun, h2, h3, h4⟩ := run_app (P := P) w base t o.type e i z size bytes ht hi hz hsize hby hzs hsz v n xs hown vx news hr h1 N hN hbytes hb0 hbase
  unfold Oper.wp execOp
  simp only [ho, resolve, invoke, builtin, Sem.run_bind, Sem.run_pure, Result.andThen_ok, List.map_toArray, List.map_cons, List.map_nil, hs, hx, hrun]
  obtain ⟨A, c, rfl, hc, hcm, _⟩ := own_slice h2
  exact h A c w' ⟨h2, h3, h4, hc, hcm⟩
theorem wpList_app {ops : Array Oper} {rest : List Oper} {o : Oper} {a : Act} {Q : Exit → Act → World → Prop} (hgd : o.guard = none) (s x : Operand) (t : TypeId)
    (ho : o.op = .call { callee := .builtin .append, args := #[s, x], argTypes := #[t, t] })
    (base : Nat) (e : TypeId) (i : TypeInfo) (z : Value) (size bytes : Nat) (ht : P.underlying t = some (.slice e)) (hi : P.info? e = some i) (hz : i.zero = some z)
    (hsize : i.size = size) (hby : i.bytes = bytes) (hzs : z.cells.size = size) (hsz : 0 < size)
    (v : Value) (n : Nat) (xs : List Value) (hs : a.eval s = v) (hown : w.ownsRow base e size v n xs)
    (vx : Value) (news : List Value) (hx : a.eval x = vx) (hr : Sl w size vx news) (h1 : ∀ u ∈ news, u.oneCell' = true)
    (N : Nat) (hN : n * size + news.length = N * size) (hbytes : N * bytes ≤ 140737488355328) (hb0 : 0 < bytes) (hbase : base ≤ w.heap.size)
    (h : ∀ A c w', Appended base e size v xs news w w' A N c → wpList P ops Q rest (a.put o.dst (.slice A N c)) w') : wpList P ops Q (o :: rest) a w :=
  wpList_plain hgd fun _ hK => wp_app w s x t ho base e i z size bytes ht hi hz hsize hby hzs hsz v n xs hs hown vx news hx hr h1 N hN hbytes hb0 hbase fun A c w' h2 => hK _ _ (h A c w' h2)
theorem step_app {ops : Array Oper} {o : Oper} {a : Act} {K : Act → World → Prop} {Q : Exit → Act → World → Prop} {E : Prop} (hgd : o.guard = none) (s x : Operand) (t : TypeId)
    (ho : o.op = .call { callee := .builtin .append, args := #[s, x], argTypes := #[t, t] })
    (base : Nat) (e : TypeId) (i : TypeInfo) (z : Value) (size bytes : Nat) (ht : P.underlying t = some (.slice e)) (hi : P.info? e = some i) (hz : i.zero = some z)
    (hsize : i.size = size) (hby : i.bytes = bytes) (hzs : z.cells.size = size) (hsz : 0 < size)
    (v : Value) (n : Nat) (xs : List Value) (hs : a.eval s = v) (hown : w.ownsRow base e size v n xs)
    (vx : Value) (news : List Value) (hx : a.eval x = vx) (hr : Sl w size vx news) (h1 : ∀ u ∈ news, u.oneCell' = true)
    (N : Nat) (hN : n * size + news.length = N * size) (hbytes : N * bytes ≤ 140737488355328) (hb0 : 0 < bytes) (hbase : base ≤ w.heap.size)
    (h : ∀ A c w', Appended base e size v xs news w w' A N c → K (a.put o.dst (.slice A N c)) w') :
    if Region.wanted o (yielded ops a.tmps) = true then Oper.wp P o a w K Q else E := by
  rw [if_pos (by simp [Region.wanted, hgd])]
  exact wp_app w s x t ho base e i z size bytes ht hi hz hsize hby hzs hsz v n xs hs hown vx news hx hr h1 N hN hbytes hb0 hbase h
end
theorem wrapU (a : Nat) (ha : a < 18446744073709551616) : IntKind.u64.wrap (a : Int) = (a : Int) := by rw [IntKind.wrap_u64]; omega
theorem wrap_div (x g : Nat) (hx : x < 18446744073709551616) : IntKind.u64.wrap ((x : Int) / (g : Int)) = ((x / g : Nat) : Int) := by
  rw [← Int.natCast_ediv]
  exact wrapU _ (Nat.lt_of_le_of_lt (Nat.div_le_self x g) hx)
theorem quiet_left {P : Program} {f : FuncId} {args : Array Value} {w : World} {n : Nat} {v : Value}
    (h : Calls P f args (w.drewN n) fun e w' => e = .returned v ∧ w.drewN n = w') : Calls P f args (w.drewN n) fun e w'' => e = .returned v ∧ ∃ m, w'' = w.drewN m :=
  h.mono fun _ _ ⟨he, hm⟩ => ⟨he, n, hm.symm⟩
theorem own_drewN {w : World} {base : Nat} {e : TypeId} {size n : Nat} {v : Value} {xs : List Value} (h : w.ownsRow base e size v n xs) (k : Nat) : (w.drewN k).ownsRow base e size v n xs := h
end

section
-- Num
open Go Go.RowKit
theorem ret_u64 {a b : Int} (h : a = b) : Ending.returned (.int .u64 a) = Ending.returned (.int .u64 b) := by rw [h]
theorem ret_bool {a b : Bool} (h : a = b) : Ending.returned (.bool a) = Ending.returned (.bool b) := by rw [h]
set_option maxHeartbeats 400000 in
theorem size_any (n : Int) (w : World) (h1 : -9223372036854775808 ≤ n) (h2 : n ≤ 9223372036854775807) :
    Calls Tryz.prog 105 #[.int .i64 n] w fun e w' => e = .returned (.int .u64 n.natAbs) ∧ w = w' := by
  by_cases h : n < 0
  · go_enter Tryz.func105, Tryz.ntmps105
    go_wp2
    go_ret
    exact ⟨ret_u64 (by omega), rfl⟩
  · go_enter Tryz.func105, Tryz.ntmps105
    go_wp2
    go_ret
    exact ⟨ret_u64 (by omega), rfl⟩
set_option maxHeartbeats 400000 in
theorem common_any (a b : Nat) (w : World) (ha : a < 18446744073709551616) (hb : b < 18446744073709551616) :
    Calls Tryz.prog 157 #[.int .u64 a, .int .u64 b] w fun e w' => e = .returned (.int .u64 (Nat.gcd b a)) ∧ ∃ n, w' = w.drewN n := by
  go_enter Tryz.func157, Tryz.ntmps157
  go_wp2
  go_loopw [0, 1] (fun x y wr => ∃ (c d n : Nat), c < 18446744073709551616 ∧ d < 18446744073709551616 ∧ x = .int .u64 c ∧ y = .int .u64 d ∧ Nat.gcd b a = Nat.gcd d c ∧ wr = w.drewN n) (fun _ y _ => (intOf y).toNat)
  case atStart => exact ⟨a, b, 0, ha, hb, rfl, rfl, rfl, rfl⟩
  case round =>
    obtain ⟨c, d, n, hc, hd, rfl, rfl, hg, rfl⟩ := hrel
    have HG := Lib.hid hg
    clear hg
    by_cases h0 : 0 < d
    · go_wp2
      go_quiet (fail)
      go_wp2
      go_roundw
      case rel =>
        have := Nat.mod_lt c h0
        exact ⟨d, c % d, _, hd, by omega, rfl, by go_num, by rw [HG.out]; exact Nat.gcd_rec _ _, World.drewN_drewN _ _ _⟩
      case measure => simp [intOf]; have := Nat.mod_lt c h0; omega
    · go_wp2
      go_ret
      have : d = 0 := by omega
      subst this
      exact ⟨by rw [HG.out]; simp, _, rfl⟩
end

section
-- Math
def prodN : List Nat → Nat
  | [] => 1
  | a :: l => a * prodN l
theorem prodN_append (l m : List Nat) : prodN (l ++ m) = prodN l * prodN m := by
  induction l with
  | nil => simp [prodN]
  | cons a l ih => simp [prodN, ih, Nat.mul_assoc]
/-- Numbers from 1 below 2 to the 64. -/
def Ones (l : List Nat) : Prop := ∀ x ∈ l, 1 ≤ x ∧ x < 18446744073709551616
theorem Ones.nil : Ones [] := fun _ h => by cases h
theorem Ones.cons {a : Nat} {l : List Nat} (h1 : 1 ≤ a) (h2 : a < 18446744073709551616) (h : Ones l) : Ones (a :: l) := fun x hx => by
  rcases List.mem_cons.1 hx with rfl | hx
  · exact ⟨h1, h2⟩
  · exact h x hx
theorem Ones.get {l : List Nat} (h : Ones l) {k : Nat} (hk : k < l.length) : 1 ≤ l[k] ∧ l[k] < 18446744073709551616 := h _ (List.getElem_mem hk)
theorem prodN_pos {l : List Nat} (h : ∀ x ∈ l, 1 ≤ x) : 1 ≤ prodN l := by
  induction l with
  | nil => simp [prodN]
  | cons a l ih =>
    have h1 := h a (by simp)
    have h2 := ih fun x hx => h x (by simp [hx])
    exact Nat.mul_pos h1 h2
theorem Ones.pos {l : List Nat} (h : Ones l) : 1 ≤ prodN l := prodN_pos fun x hx => (h x hx).1
theorem prodN_set (l : List Nat) (i x : Nat) (h : i < l.length) : prodN (l.set i x) * l[i] = prodN l * x := by
  induction l generalizing i with
  | nil => simp at h
  | cons a l ih =>
    cases i with
    | zero => simp only [List.set_cons_zero, prodN, List.getElem_cons_zero]; rw [Nat.mul_right_comm, Nat.mul_comm x a, Nat.mul_right_comm]
    | succ i =>
      simp only [List.set_cons_succ, prodN, List.getElem_cons_succ]
      rw [Nat.mul_assoc, ih i (by simpa using h), Nat.mul_assoc]
/-- The numbers other than 1. -/
def strike (l : List Nat) : List Nat := l.filter (· ≠ 1)
theorem strike_snoc (l : List Nat) (k : Nat) (h : k < l.length) : strike (l.take (k + 1)) = strike (l.take k) ++ if l[k] = 1 then [] else [l[k]] := by
  unfold strike
  rw [List.take_succ_eq_append_getElem h, List.filter_append]
  by_cases h1 : l[k] = 1 <;> simp [h1]
theorem strike_length (l : List Nat) : (strike l).length ≤ l.length := List.length_filter_le _ _
theorem strike_take (l : List Nat) (k : Nat) : (strike (l.take k)).length ≤ k := Nat.le_trans (strike_length _) (by simp; omega)
theorem prodN_filter (l : List Nat) : prodN (strike l) = prodN l := by
  unfold strike
  induction l with
  | nil => rfl
  | cons a l ih =>
    by_cases h : a = 1
    · simp_all [prodN]
    · simp_all [prodN]
theorem prodN_coprime_left {l : List Nat} {m : Nat} (h : ∀ x ∈ l, Nat.Coprime x m) : Nat.Coprime (prodN l) m := by
  induction l with
  | nil => exact Nat.coprime_one_left_eq_true m ▸ trivial
  | cons a l ih => exact Nat.Coprime.mul_left (h a (by simp)) (ih fun x hx => h x (by simp [hx]))
theorem prodN_coprime {l m : List Nat} (h : ∀ x ∈ l, ∀ y ∈ m, Nat.Coprime x y) : Nat.Coprime (prodN l) (prodN m) :=
  prodN_coprime_left fun x hx => (prodN_coprime_left (l := m) fun y hy => (h x hx y hy).symm).symm
theorem prodN_take (l : List Nat) (k : Nat) (h : k < l.length) : prodN (l.take (k + 1)) = prodN (l.take k) * l[k] := by
  rw [List.take_succ_eq_append_getElem h, prodN_append]; simp [prodN]
theorem prodN_take_le {l : List Nat} (h : Ones l) (k : Nat) : prodN (l.take k) ≤ prodN l := by
  have e : prodN l = prodN (l.take k) * prodN (l.drop k) := by rw [← prodN_append, List.take_append_drop]
  rw [e]
  exact Nat.le_mul_of_pos_right _ (prodN_pos fun x hx => (h x (List.mem_of_mem_drop hx)).1)
/-- The quotient of two products. -/
def val (U D : List Nat) : Rat := (prodN U : Rat) / (prodN D : Rat)
theorem castN_ne {n : Nat} (h : 1 ≤ n) : (n : Rat) ≠ 0 := by
  intro h0
  have : ((n : Int) : Rat) = ((0 : Int) : Rat) := by exact_mod_cast h0
  have : (n : Int) = 0 := by exact_mod_cast this
  omega
theorem Ones.ne {l : List Nat} (h : Ones l) : (prodN l : Rat) ≠ 0 := castN_ne h.pos
theorem val_append {U D U' D' : List Nat} (hD : Ones D) (hD' : Ones D') : val (U ++ U') (D ++ D') = val U D * val U' D' := by
  unfold val
  rw [prodN_append, prodN_append]
  have h1 := hD.ne
  have h2 := hD'.ne
  have e1 : ((prodN U * prodN U' : Nat) : Rat) = (prodN U : Rat) * (prodN U' : Rat) := by exact_mod_cast rfl
  have e2 : ((prodN D * prodN D' : Nat) : Rat) = (prodN D : Rat) * (prodN D' : Rat) := by exact_mod_cast rfl
  rw [e1, e2]
  grind
theorem val_nil : val [] [] = 1 := by unfold val; simp [prodN]; grind
theorem val_pos {U D : List Nat} (hU : Ones U) (hD : Ones D) : 0 < val U D := by
  unfold val
  have h1 : (0 : Rat) < (prodN U : Rat) := by exact_mod_cast hU.pos
  have h2 : (0 : Rat) < (prodN D : Rat) := by exact_mod_cast hD.pos
  rw [Rat.div_def]; exact Rat.mul_pos h1 (Rat.inv_pos.2 h2)
/-- A reduced product of the value q: no factor 1, and nothing in common. -/
structure Red (U D : List Nat) (q : Rat) : Prop where
  up : ∀ x ∈ U, 2 ≤ x ∧ x < 18446744073709551616
  down : ∀ x ∈ D, 2 ≤ x ∧ x < 18446744073709551616
  cop : Nat.Coprime (prodN U) (prodN D)
  val : val U D = q
theorem Red.onesU {U D : List Nat} {q : Rat} (h : Red U D q) : Ones U := fun x hx => ⟨by have := (h.up x hx).1; omega, (h.up x hx).2⟩
theorem Red.onesD {U D : List Nat} {q : Rat} (h : Red U D q) : Ones D := fun x hx => ⟨by have := (h.down x hx).1; omega, (h.down x hx).2⟩
theorem Red.pos {U D : List Nat} {q : Rat} (h : Red U D q) : 0 < q := h.val ▸ val_pos h.onesU h.onesD
theorem Red.ne {U D : List Nat} {q : Rat} (h : Red U D q) : q ≠ 0 := by have := h.pos; grind
theorem div_num_den {a b : Nat} (hb : 1 ≤ b) (h : Nat.Coprime a b) : ((a : Rat) / (b : Rat)).num = a ∧ ((a : Rat) / (b : Rat)).den = b := by
  have e : (a : Rat) / (b : Rat) = mkRat a b := by
    rw [Rat.mkRat_eq_div]
    norm_cast
  rw [e]
  have hb0 : b ≠ 0 := by omega
  have h1 : a.gcd b = 1 := h
  rw [← Rat.normalize_eq_mkRat hb0, Rat.normalize_eq]
  simp [h1]
theorem Red.num {U D : List Nat} {q : Rat} (h : Red U D q) : q.num = prodN U := h.val ▸ (div_num_den h.onesD.pos h.cop).1
theorem Red.den {U D : List Nat} {q : Rat} (h : Red U D q) : q.den = prodN D := h.val ▸ (div_num_den h.onesD.pos h.cop).2
theorem Red.nil : Red [] [] 1 := ⟨(fun _ h => by cases h), (fun _ h => by cases h), by simp [prodN], val_nil⟩
/-- A state of the cancelling of U against D: the same quotient; the pairs that are done have nothing in common. -/
structure Canc (U0 D0 U D : List Nat) (i j : Nat) : Prop where
  lenU : U.length = U0.length
  lenD : D.length = D0.length
  onesU : Ones U
  onesD : Ones D
  val : val U D = val U0 D0
  done : ∀ a b (ha : a < U.length) (hb : b < D.length), a < i ∨ (a = i ∧ b < j) → Nat.Coprime U[a] D[b]
theorem Canc.start {U D : List Nat} (hU : Ones U) (hD : Ones D) : Canc U D U D 0 0 := ⟨rfl, rfl, hU, hD, rfl, fun a b _ _ h => by omega⟩
theorem Canc.next {U0 D0 U D : List Nat} {i : Nat} (h : Canc U0 D0 U D i D.length) : Canc U0 D0 U D (i + 1) 0 :=
  ⟨h.lenU, h.lenD, h.onesU, h.onesD, h.val, fun a b ha hb hab => h.done a b ha hb (by omega)⟩
theorem div_le_self' {x g : Nat} : x / g ≤ x := Nat.div_le_self x g
theorem Canc.step {U0 D0 U D : List Nat} {i j : Nat} (h : Canc U0 D0 U D i j) (hi : i < U.length) (hj : j < D.length) (g : Nat) (hg : g = Nat.gcd U[i] D[j]) :
    Canc U0 D0 (U.set i (U[i] / g)) (D.set j (D[j] / g)) i (j + 1) := by
  have hu := h.onesU.get hi
  have hd := h.onesD.get hj
  have hg1 : 0 < g := by rw [hg]; exact Nat.gcd_pos_of_pos_left _ (by omega)
  have du : g ∣ U[i] := hg ▸ Nat.gcd_dvd_left _ _
  have dd : g ∣ D[j] := hg ▸ Nat.gcd_dvd_right _ _
  have hu1 : 1 ≤ U[i] / g := Nat.div_pos (Nat.le_of_dvd (by omega) du) hg1
  have hd1 : 1 ≤ D[j] / g := Nat.div_pos (Nat.le_of_dvd (by omega) dd) hg1
  have oU : Ones (U.set i (U[i] / g)) := fun x hx => by
    rcases List.mem_or_eq_of_mem_set hx with hx | rfl
    · exact h.onesU x hx
    · exact ⟨hu1, Nat.lt_of_le_of_lt div_le_self' hu.2⟩
  have oD : Ones (D.set j (D[j] / g)) := fun x hx => by
    rcases List.mem_or_eq_of_mem_set hx with hx | rfl
    · exact h.onesD x hx
    · exact ⟨hd1, Nat.lt_of_le_of_lt div_le_self' hd.2⟩
  refine ⟨by rw [List.length_set]; exact h.lenU, by rw [List.length_set]; exact h.lenD, oU, oD, ?_, ?_⟩
  · rw [← h.val]
    have eU : prodN (U.set i (U[i] / g)) * g = prodN U := by
      have e := prodN_set U i (U[i] / g) hi
      have e2 : U[i] = U[i] / g * g := (Nat.div_mul_cancel du).symm
      have e3 : prodN (U.set i (U[i] / g)) * g * (U[i] / g) = prodN U * (U[i] / g) := by
        rw [← e, Nat.mul_assoc, Nat.mul_comm g, ← e2]
      exact Nat.eq_of_mul_eq_mul_right hu1 e3
    have eD : prodN (D.set j (D[j] / g)) * g = prodN D := by
      have e := prodN_set D j (D[j] / g) hj
      have e2 : D[j] = D[j] / g * g := (Nat.div_mul_cancel dd).symm
      have e3 : prodN (D.set j (D[j] / g)) * g * (D[j] / g) = prodN D * (D[j] / g) := by
        rw [← e, Nat.mul_assoc, Nat.mul_comm g, ← e2]
      exact Nat.eq_of_mul_eq_mul_right hd1 e3
    unfold Go.Proofs.YtdmcopjbckelmaaGreatDoor.val
    rw [← eU, ← eD]
    have c1 : ((prodN (U.set i (U[i] / g)) * g : Nat) : Rat) = (prodN (U.set i (U[i] / g)) : Rat) * (g : Rat) := by exact_mod_cast rfl
    have c2 : ((prodN (D.set j (D[j] / g)) * g : Nat) : Rat) = (prodN (D.set j (D[j] / g)) : Rat) * (g : Rat) := by exact_mod_cast rfl
    rw [c1, c2]
    have n1 := oD.ne
    have n2 := castN_ne hg1
    generalize (prodN (U.set i (U[i] / g)) : Rat) = x
    generalize hy : (prodN (D.set j (D[j] / g)) : Rat) = y at *
    grind
  · intro a b ha hb hab
    simp only [List.length_set] at ha hb
    have key : ∀ (x y x' y' : Nat), Nat.Coprime x y → x' ∣ x → y' ∣ y → Nat.Coprime x' y' := fun x y x' y' hc h1 h2 => (hc.coprime_dvd_left h1).coprime_dvd_right h2
    have dvU : (U.set i (U[i] / g))[a]'(by simpa using ha) ∣ U[a] := by
      rw [List.getElem_set]
      split
      · rename_i e; subst e; exact Nat.div_dvd_of_dvd du
      · exact Nat.dvd_refl _
    have dvD : (D.set j (D[j] / g))[b]'(by simpa using hb) ∣ D[b] := by
      rw [List.getElem_set]
      split
      · rename_i e; subst e; exact Nat.div_dvd_of_dvd dd
      · exact Nat.dvd_refl _
    by_cases hc : a = i ∧ b = j
    · obtain ⟨rfl, rfl⟩ := hc
      simp only [List.getElem_set_self]
      rw [hg]
      exact Nat.coprime_div_gcd_div_gcd (by rw [← hg]; exact hg1)
    · exact key _ _ _ _ (h.done a b ha hb (by omega)) dvU dvD
/-- All pairs are done, and the factors 1 are struck. -/
theorem Canc.red {U0 D0 U D : List Nat} {j : Nat} (h : Canc U0 D0 U D U.length j) : Red (strike U) (strike D) (Go.Proofs.YtdmcopjbckelmaaGreatDoor.val U0 D0) := by
  have two : ∀ {l : List Nat}, Ones l → ∀ x ∈ strike l, 2 ≤ x ∧ x < 18446744073709551616 := by
    intro l hl x hx
    have hm := List.mem_filter.1 hx
    have h1 := hl x hm.1
    have : x ≠ 1 := by simpa using hm.2
    exact ⟨by omega, h1.2⟩
  refine ⟨two h.onesU, two h.onesD, ?_, ?_⟩
  · rw [prodN_filter, prodN_filter]
    refine prodN_coprime fun x hx y hy => ?_
    obtain ⟨a, ha, rfl⟩ := List.getElem_of_mem hx
    obtain ⟨b, hb, rfl⟩ := List.getElem_of_mem hy
    exact h.done a b ha hb (.inl ha)
  · rw [← h.val]
    unfold Go.Proofs.YtdmcopjbckelmaaGreatDoor.val
    rw [prodN_filter, prodN_filter]
end

section
-- Bits
open Go Go.RowKit Go.Shelf
def ren264 : Go.Shelf.Ren := ⟨fun | 264 => 159 | n => n, fun | 53 => 144 | 46 => 162 | n => n, fun | n => n⟩
theorem lays264 : Go.Proofs.Lays.n264 Tryz.prog ren264 := {
  mixed := by kernel_rfl
  f264 := Tryz.func159.trans (congrArg some (by kernel_rfl))
  t46 := Tryz.underlying162
  a46 := Tryz.isAgg162
  z46 := Tryz.sizeOf162
  v46 := Tryz.zeroValue162
  t53 := Tryz.underlying144
  a53 := Tryz.isAgg144
  z53 := Tryz.sizeOf144
  v53 := Tryz.zeroValue144 }
theorem mul64_any (x y : Nat) (hx : x < 18446744073709551616) (hy : y < 18446744073709551616) (w : World) :
    Calls Tryz.prog 159 #[.int .u64 x, .int .u64 y] w fun e w' => e = .returned (.tuple #[.int .u64 ((x * y / 18446744073709551616 : Nat) : Int), .int .u64 ((x * y % 18446744073709551616 : Nat) : Int)]) ∧ w = w' :=
  (Any.bits_Mul64 lays264 x y hx hy w).mono fun _ _ ⟨h1, h2⟩ => ⟨h1, h2.symm⟩
/-- Numbers of type uint64, as cells. -/
def u64s (l : List Nat) : List Value := l.map fun (n : Nat) => Value.int .u64 (n : Int)
theorem u64s_length (l : List Nat) : (u64s l).length = l.length := by simp [u64s]
theorem u64s_append (l m : List Nat) : u64s (l ++ m) = u64s l ++ u64s m := by simp [u64s]
theorem u64s_one (l : List Nat) : ∀ u ∈ u64s l, u.oneCell' = true := by
  intro u hu
  simp only [u64s, List.mem_map] at hu
  obtain ⟨n, _, rfl⟩ := hu
  rfl
theorem u64s_ne (l : List Nat) (A : Option Addr) (n c : Nat) : ∀ u ∈ u64s l, u ≠ .slice A n c := by
  intro u hu
  simp only [u64s, List.mem_map] at hu
  obtain ⟨n, _, rfl⟩ := hu
  intro h; cases h
theorem u64s_get {l : List Nat} {k : Nat} (hk : k < l.length) : (u64s l)[k]? = some (.int .u64 (l[k] : Int)) := by simp [u64s, hk]
theorem u64s_set (l : List Nat) (k x : Nat) : (u64s l).set k (.int .u64 (x : Int)) = u64s (l.set k x) := by simp [u64s, List.map_set]
theorem infoU64 : (Tryz.prog.info? 144).map (fun i => (i.zero, i.size, i.bytes)) = some (some (.int .u64 0), 1, 8) := by kernel_rfl
section
variable {ops : Array Oper} {rest : List Oper} {o : Oper} {a : Act} {K : Act → World → Prop} {Q : Exit → Act → World → Prop} {w : World} {E : Prop}
/-- append onto a row of uint64, at a plain region. -/
theorem appU64 (s x : Operand) (hgd : o.guard = none) (ho : o.op = .call { callee := .builtin .append, args := #[s, x], argTypes := #[146, 146] })
    {base n : Nat} {v vx : Value} {xs news : List Value} (hs : a.eval s = v) (hx : a.eval x = vx) (hown : w.ownsRow base 144 1 v n xs) (hr : Sl w 1 vx news) (h1 : ∀ u ∈ news, u.oneCell' = true)
    {N : Nat} (hN : n + news.length = N) (hb : N ≤ 17592186044416) (hbase : base ≤ w.heap.size)
    (h : ∀ A c w', Appended base 144 1 v xs news w w' A N c → wpList Tryz.prog ops Q rest (a.put o.dst (.slice A N c)) w') : wpList Tryz.prog ops Q (o :: rest) a w := by
  obtain ⟨i, hi, hz0, hz1, hz2⟩ := info_parts infoU64
  exact wpList_app w hgd s x 146 ho base 144 i (.int .u64 0) 1 8 Tryz.underlying146 hi hz0 hz1 hz2 rfl (by decide) v n xs hs hown vx news hx hr h1 N (by omega) (by omega) (by decide) hbase h
/-- The same, at a step of a region that draws its order. -/
theorem stepU64 (s x : Operand) (hgd : o.guard = none) (ho : o.op = .call { callee := .builtin .append, args := #[s, x], argTypes := #[146, 146] })
    {base n : Nat} {v vx : Value} {xs news : List Value} (hs : a.eval s = v) (hx : a.eval x = vx) (hown : w.ownsRow base 144 1 v n xs) (hr : Sl w 1 vx news) (h1 : ∀ u ∈ news, u.oneCell' = true)
    {N : Nat} (hN : n + news.length = N) (hb : N ≤ 17592186044416) (hbase : base ≤ w.heap.size)
    (h : ∀ A c w', Appended base 144 1 v xs news w w' A N c → K (a.put o.dst (.slice A N c)) w') : if Region.wanted o (yielded ops a.tmps) = true then Oper.wp Tryz.prog o a w K Q else E := by
  obtain ⟨i, hi, hz0, hz1, hz2⟩ := info_parts infoU64
  exact step_app w hgd s x 146 ho base 144 i (.int .u64 0) 1 8 Tryz.underlying146 hi hz0 hz1 hz2 rfl (by decide) v n xs hs hown vx news hx hr h1 N (by omega) (by omega) (by decide) hbase h
end
end

section
-- Prod
open Go Go.RowKit
theorem below_of_own {w w' : World} {base : Nat} {e : TypeId} {size n : Nat} {v : Value} {xs : List Value} (hg : w.grownBy w' v.ownBlock) (h : w.ownsRow base e size v n xs) {B : World} (hB : Below B.heap.size B w) (hb : B.heap.size ≤ base) : Below B.heap.size B w' :=
  hB.grown hg hB.size (fun k hk => Nat.le_trans hb (h.lt k hk).1)
set_option maxRecDepth 100000 in
set_option maxHeartbeats 400000 in
theorem trimmed_any (v : Value) (l : List Nat) (w : World) (hv : Sl w 1 v (u64s l)) (hl : l.length ≤ 17592186044415) :
    Calls Tryz.prog 158 #[v] w fun e w' => ∃ r, e = .returned r ∧ Below w.heap.size w w' ∧ w'.ownsRow w.heap.size 144 1 r (strike l).length (u64s (strike l)) := by
  obtain ⟨A, c, rfl, hlc, hcm, hcell⟩ := hv.open1
  simp only [u64s_length] at hlc ⊢
  go_enter Tryz.func158, Tryz.ntmps158
  go_wp2
  go_loopw [3, 5, 8] (fun v x i wr => ∃ (k : Nat), k ≤ l.length ∧ i = .int .i64 k ∧ wr.ownsRow w.heap.size 144 1 v (strike (l.take k)).length (u64s (strike (l.take k))) ∧ Below w.heap.size w wr) (fun _ _ i _ => l.length - (intOf i).toNat)
  case atStart => exact ⟨0, by omega, rfl, World.ownsRow_nil _ _ _ _, Below.refl _ _⟩
  case round =>
    obtain ⟨k, hk, rfl, hown, hbel⟩ := hrel
    by_cases hlt : k < l.length
    · obtain ⟨ad, rfl, hcell0⟩ := hcell k _ (u64s_get hlt)
      have hcell' : wr.cell? (ad.add k) = some (.int .u64 (l[k] : Int)) := (hbel.cell (block_lt_of_cell hcell0)).trans hcell0
      have HC := Lib.hid hcell
      clear hcell hcell0
      have hf := strike_take l k
      have HS := Lib.hid (strike_snoc l k hlt)
      have hsz := hbel.size
      by_cases h1 : l[k] = 1
      · have h2 : ((l[k] : Int) != 1) = false := by simp [h1]
        have H1 := Lib.hid h1
        clear h1
        go_wp2
        go_roundw
        case rel => exact ⟨k + 1, by omega, by go_num, by rw [HS.out, if_pos H1.out]; simpa using hown, hbel⟩
        case measure => simp [intOf]; omega
      · have h2 : ((l[k] : Int) != 1) = true := by rw [bne_iff_ne]; omega
        have H1 := Lib.hid h1
        clear h1
        go_wp2_with (at_builtin; refine appU64 _ _ rfl rfl rfl rfl (hown.alloc _) (Sl.new (s := 1) wr 144 1 1 _ rfl (by omega) (by omega)) (by simp [Value.oneCell']) rfl (by simp; omega) (by simp; omega) ?_; intro A1 c1 w1 hap)
        have hb1 := below_of_own hap.grown (hown.alloc _) (hbel.alloc hsz (.cells #[.int .u64 (l[k] : Int)] 144)) (Nat.le_refl _)
        have hap1 := hap.own
        clear hap hcell'
        go_wp2
        go_roundw
        case rel => exact ⟨k + 1, by omega, by go_num, by rw [HS.out, if_neg H1.out, u64s_append]; simpa [u64s] using hap1, hb1⟩
        case measure => simp [intOf]; omega
    · have HC := Lib.hid hcell
      clear hcell
      go_wp2
      go_ret
      refine ⟨_, rfl, hbel, ?_⟩
      have : l.take k = l := List.take_of_length_le (by omega)
      rw [this] at hown
      exact hown
theorem mul_parts' (a b m : Nat) (hm : m < 18446744073709551616) (h : a * b ≤ m) : a * b / 18446744073709551616 = 0 ∧ a * b % 18446744073709551616 = a * b := by omega
def WithinPost (l : List Nat) (most : Nat) (e : Ending) : Prop :=
  (prodN l ≤ most ∧ e = .returned (.tuple #[.int .u64 (prodN l : Int), .bool true])) ∨ (¬ prodN l ≤ most ∧ e = .returned (.tuple #[.int .u64 0, .bool false]))
set_option maxRecDepth 100000 in
set_option maxHeartbeats 400000 in
theorem within_any (v : Value) (l : List Nat) (most : Nat) (w : World) (hv : Sl w 1 v (u64s l)) (ho : Ones l) (hm0 : 1 ≤ most) (hm : most < 18446744073709551616) :
    Calls Tryz.prog 133 #[v, .int .u64 most] w fun e w' => WithinPost l most e ∧ ∃ n, w' = w.drewN n := by
  obtain ⟨A, c, rfl, hlc, hcm, hcell⟩ := hv.open1
  simp only [u64s_length] at hlc ⊢
  go_enter Tryz.func133, Tryz.ntmps133
  go_wp2
  go_loopw [6, 8, 9, 10, 13, 17] (fun p _ _ _ i _ wr => ∃ (k n : Nat), k ≤ l.length ∧ i = .int .i64 k ∧ p = .int .u64 (prodN (l.take k)) ∧ prodN (l.take k) ≤ most ∧ wr = w.drewN n) (fun _ _ _ _ i _ _ => l.length - (intOf i).toNat)
  case atStart => exact ⟨0, 0, by omega, rfl, rfl, by simpa [prodN] using hm0, rfl⟩
  case round =>
    obtain ⟨k, n, hk, rfl, rfl, hp, rfl⟩ := hrel
    by_cases hlt : k < l.length
    · obtain ⟨ad, rfl, hcell0⟩ := hcell k _ (u64s_get hlt)
      have HC := Lib.hid hcell
      clear hcell
      have hx := ho.get hlt
      have hx2 := hx.2
      have HS := Lib.hid (prodN_take l k hlt)
      have HT := Lib.hid (prodN_take_le ho (k + 1))
      have hpm : prodN (l.take k) < 18446744073709551616 := by omega
      generalize hpe : prodN (l.take k) = p at *
      clear hpe
      by_cases hle : p * l[k] ≤ most
      · obtain ⟨e1, e2⟩ := mul_parts' _ _ _ hm hle
        have E2 := Lib.hid e2
        clear e2
        go_wp2_with (go_at_call 159; refine (mul64_any p l[k] hpm hx2 _).mono ?_; rintro e w' ⟨rfl, rfl⟩)
        go_roundw
        case rel => exact ⟨k + 1, n, by omega, by go_num, by rw [HS.out, ← E2.out]; simp, by rw [HS.out]; exact hle, rfl⟩
        case measure => simp [intOf]; omega
      · have HN : Hid (¬ prodN l ≤ most) := Lib.hid (fun h => hle (by have h1 := HS.out; rw [← h1]; exact Nat.le_trans HT.out h))
        by_cases hh : p * l[k] / 18446744073709551616 = 0
        · have hlow : (most : Int) < (p : Int) * (l[k] : Int) % 18446744073709551616 := by
            have : p * l[k] % 18446744073709551616 = p * l[k] := by omega
            have : (p : Int) * (l[k] : Int) = ((p * l[k] : Nat) : Int) := by simp
            omega
          have hb : ((p : Int) * (l[k] : Int) / 18446744073709551616 != 0) = false := by
            have : (p : Int) * (l[k] : Int) = ((p * l[k] : Nat) : Int) := by simp
            rw [bne_eq_false_iff_eq]
            omega
          have HH := Lib.hid hh
          clear hh
          go_wp2_with (go_at_call 159; refine (mul64_any p l[k] hpm hx2 _).mono ?_; rintro e w' ⟨rfl, rfl⟩)
          go_ret2
          exact ⟨.inr ⟨HN.out, rfl⟩, _, rfl⟩
        · have hb : ((p : Int) * (l[k] : Int) / 18446744073709551616 != 0) = true := by
            have : (p : Int) * (l[k] : Int) = ((p * l[k] : Nat) : Int) := by simp
            rw [bne_iff_ne]
            omega
          go_wp2_with (go_at_call 159; refine (mul64_any p l[k] hpm hx2 _).mono ?_; rintro e w' ⟨rfl, rfl⟩)
          go_ret2
          exact ⟨.inr ⟨HN.out, rfl⟩, _, rfl⟩
    · have HC := Lib.hid hcell
      clear hcell
      have HT := Lib.hid (show l.take k = l from List.take_of_length_le (by omega))
      go_wp2
      go_ret2
      exact ⟨.inl ⟨by rw [← HT.out]; exact hp, by rw [HT.out]; rfl⟩, _, rfl⟩
end

section
-- Red
open Go Go.RowKit
/-- The value of a product of numbers: the lists U, D. -/
def Pr (w : World) (v : Value) (U D : List Nat) : Prop := ∃ s1 s2, v = .agg #[s1, s2] ∧ Sl w 1 s1 (u64s U) ∧ Sl w 1 s2 (u64s D)
theorem Pr.below {w w' : World} {v : Value} {U D : List Nat} (h : Pr w v U D) (hb : Below w.heap.size w w') : Pr w' v U D := by
  obtain ⟨s1, s2, rfl, h1, h2⟩ := h
  exact ⟨s1, s2, rfl, h1.below hb, h2.below hb⟩
/-- The same, where the box holds other slices. -/
theorem Sl.box_ {w : World} {b : Nat} {v : Value} {U : List Nat} {A A' : Option Addr} {n c n' c' : Nat} (h : Sl w 1 v (u64s U)) (h0 : w.cell? ⟨b, 0, none⟩ = some (.slice A n c)) (h1 : w.cell? ⟨b, 1, none⟩ = some (.slice A' n' c')) (x y : Value) :
    Sl ((w.setCell ⟨b, 0, none⟩ x).setCell ⟨b, 1, none⟩ y) 1 v (u64s U) := by
  refine (h.setCell h0 (u64s_ne _ _ _ _) x).setCell (old := .slice A' n' c') ?_ (u64s_ne _ _ _ _) y
  rw [World.cell?_setCell_other _ _ _ _ (by simp)]
  exact h1
theorem own_stored {w : World} {base : Nat} {e : TypeId} {n g cap : Nat} {l : List Nat} (h : w.ownsRow base e 1 (.slice (some ⟨g, 0, none⟩) n cap) n (u64s l)) (j x : Nat) :
    (w.setCell ⟨g, j, none⟩ (.int .u64 (x : Int))).ownsRow base e 1 (.slice (some ⟨g, 0, none⟩) n cap) n (u64s (l.set j x)) := by
  have := (h.stored j (.int .u64 (x : Int))).1
  rwa [u64s_set] at this
/-- A row of uint64 is no box of a product. -/
theorem own_not_box {w : World} {base n cap g : Nat} {xs : List Value} {cs : Array Value} {e t : TypeId} (h : w.ownsRow base e 1 (.slice (some ⟨g, 0, none⟩) n cap) n xs) (hb : w.heap[g]? = some (.cells cs t (0, 0))) (hne : e ≠ t) : False := by
  rcases h.2 with ⟨h', _⟩ | ⟨g', cap', cur, h', _, hh, _⟩
  · cases h'
  · simp only [Value.slice.injEq, Option.some.injEq, Addr.mk.injEq, and_true, true_and] at h'
    obtain ⟨rfl, rfl⟩ := h'
    rw [hh] at hb
    injection hb with hb
    injection hb with _ hb
    exact hne hb
set_option maxRecDepth 100000 in
set_option maxHeartbeats 1000000 in
theorem reduced_any (v : Value) (U D : List Nat) (w : World) (hv : Pr w v U D) (hU : Ones U) (hD : Ones D) (lU : U.length ≤ 17592186044415) (lD : D.length ≤ 17592186044415) :
    Calls Tryz.prog 132 #[v] w fun e w' => ∃ r U' D', e = .returned r ∧ Below w.heap.size w w' ∧ Pr w' r U' D' ∧ Red U' D' (val U D) ∧ U'.length ≤ U.length ∧ D'.length ≤ D.length := by
  obtain ⟨s1, s2, rfl, hs1, hs2⟩ := hv
  go_enter Tryz.func132, Tryz.ntmps132
  go_upto_region 1 with fail
  have hs1' := (hs1.alloc (.cells #[s1, s2] 148)).alloc (.cells #[.slice none 0 0, .slice none 0 0] 148)
  have hs2' := (hs2.alloc (.cells #[s1, s2] 148)).alloc (.cells #[.slice none 0 0, .slice none 0 0] 148)
  have hb0 : Below w.heap.size w ((w.alloc (.cells #[s1, s2] 148)).alloc (.cells #[.slice none 0 0, .slice none 0 0] 148)) := ((Below.refl _ _).alloc (Nat.le_refl _) _).alloc (by simp) _
  have e0 : ((w.alloc (.cells #[s1, s2] 148)).alloc (.cells #[.slice none 0 0, .slice none 0 0] 148)).cell? ⟨w.heap.size, 0, none⟩ = some s1 := by simp
  have e1 : ((w.alloc (.cells #[s1, s2] 148)).alloc (.cells #[.slice none 0 0, .slice none 0 0] 148)).cell? ⟨w.heap.size, 1, none⟩ = some s2 := by simp
  go_region_held3 (fun w' => w'.cell? ⟨w.heap.size, 0, none⟩ = some s1 ∧ w'.cell? ⟨w.heap.size, 1, none⟩ = some s2) (first | go_keep | exact ⟨hap1.grown.cell e0 (by simp [Value.ownBlock]), hap1.grown.cell e1 (by simp [Value.ownBlock])⟩ | exact ⟨hap2.grown.cell (hap1.grown.cell e0 (by simp [Value.ownBlock])) (by simp [Value.ownBlock]), hap2.grown.cell (hap1.grown.cell e1 (by simp [Value.ownBlock])) (by simp [Value.ownBlock])⟩) (first
    | (refine stepU64 (.const (.slice none 0 0)) (.tmp 9) rfl rfl (by rfl) (by rfl) (World.ownsRow_nil _ w.heap.size _ _) hs1'.drew (u64s_one _) (N := U.length) (by simp [u64s_length]) (by omega) (by simp; omega) ?_; intro A3 c3 w1 hap1)
    | (refine stepU64 (.const (.slice none 0 0)) (.tmp 12) rfl rfl (by rfl) (by rfl) (World.ownsRow_nil _ w.heap.size _ _) (hs2'.drew.below (below_grown hap1.grown (by simp [Value.ownBlock]))) (u64s_one _) (N := D.length) (by simp [u64s_length]) (by omega) (by have := hap1.grown.size; simp at this; omega) ?_; intro A4 c4 w2 hap2))
  have hd : ∀ g g', A3 = some ⟨g, 0, none⟩ → A4 = some ⟨g', 0, none⟩ → g < g' := by
    intro g g' e3 e4
    subst e3; subst e4
    have l3 := hap1.own.lt g rfl
    have := hap2.block
    simp [Value.ownBlock] at this
    omega
  have hown3 := own_below hap1.own (below_grown hap2.grown (by simp [Value.ownBlock]))
  have hown4 := hap2.own
  simp only [List.nil_append] at hown3 hown4
  have hbw : Below w.heap.size w w2 := (below_then (a := w) (below_then (a := w) hb0.drew (below_grown hap1.grown (by simp [Value.ownBlock]))) (below_grown hap2.grown (by simp [Value.ownBlock])))
  have hres : w2.heap[w.heap.size + 1]? = some (.cells #[.slice none 0 0, .slice none 0 0] 148 (0, 0)) := by
    have h1 := hap1.grown.size
    simp at h1
    rw [hap2.grown.block _ (by omega) (by simp [Value.ownBlock]), hap1.grown.block _ (by simp) (by simp [Value.ownBlock])]
    exact heap_alloc2_new _ _ _
  have f3 : 0 < U.length → ∃ g, A3 = some ⟨g, 0, none⟩ ∧ w.heap.size ≤ g ∧ g < w1.heap.size := by
    obtain ⟨A, c, e, _, _, h⟩ := own_slice hap1.own
    cases e
    exact h
  have f4 : 0 < D.length → ∃ g, A4 = some ⟨g, 0, none⟩ ∧ w.heap.size ≤ g ∧ g < w2.heap.size := by
    obtain ⟨A, c, e, _, _, h⟩ := own_slice hap2.own
    cases e
    exact h
  have hst := Canc.start hU hD
  clear hap1 hap2 hs1' hs2' e0 e1 hb0 hs1 hs2
  go_wp2
  go_loopw [16] (fun i wr => ∃ (k : Nat) (U' D' : List Nat), k ≤ U.length ∧ i = .int .i64 k ∧ wr.ownsRow w.heap.size 144 1 (.slice A3 U.length c3) U.length (u64s U') ∧ wr.ownsRow w.heap.size 144 1 (.slice A4 D.length c4) D.length (u64s D') ∧
      Canc U D U' D' k 0 ∧ Below w.heap.size w wr ∧ wr.heap[w.heap.size + 1]? = some (.cells #[.slice none 0 0, .slice none 0 0] 148 (0, 0))) (fun i _ => U.length - (intOf i).toNat)
  case atStart => exact ⟨0, U, D, by omega, rfl, hown3, hown4, hst, hbw, hres⟩
  case round =>
    clear hown3 hown4 hst hbw hres
    obtain ⟨k, U', D', hk, rfl, hown3, hown4, hst, hbw, hres⟩ := hrel
    by_cases hlt : k < U.length
    · go_wp2
      go_loopw [21] (fun j wr => ∃ (m : Nat) (U' D' : List Nat), m ≤ D.length ∧ j = .int .i64 m ∧ wr.ownsRow w.heap.size 144 1 (.slice A3 U.length c3) U.length (u64s U') ∧ wr.ownsRow w.heap.size 144 1 (.slice A4 D.length c4) D.length (u64s D') ∧
          Canc U D U' D' k m ∧ Below w.heap.size w wr ∧ wr.heap[w.heap.size + 1]? = some (.cells #[.slice none 0 0, .slice none 0 0] 148 (0, 0))) (fun j _ => D.length - (intOf j).toNat)
      case atStart => exact ⟨0, U', D', by omega, rfl, hown3, hown4, hst, hbw, hres⟩
      case round =>
        clear hown3 hown4 hst hbw hres
        obtain ⟨m, U', D', hm, rfl, hown3, hown4, hst, hbw, hres⟩ := hrel
        by_cases hlm : m < D.length
        · obtain ⟨g3, rfl, hg3, hg3'⟩ := f3 (by omega)
          obtain ⟨g4, rfl, hg4, hg4'⟩ := f4 (by omega)
          have hne : ¬ g3 = g4 := by have := hd g3 g4 rfl rfl; omega
          have hne' : ¬ g4 = g3 := by omega
          have hkU : k < U'.length := by rw [hst.lenU]; exact hlt
          have hmD : m < D'.length := by rw [hst.lenD]; exact hlm
          have hcu : wr.cell? ⟨g3, k, none⟩ = some (.int .u64 (U'[k] : Int)) := (hown3.cellAt k (by omega)).trans (u64s_get hkU)
          have hcd : wr.cell? ⟨g4, m, none⟩ = some (.int .u64 (D'[m] : Int)) := (hown4.cellAt m (by omega)).trans (u64s_get hmD)
          have hfu := hown3.frozenAt k
          have hfd := hown4.frozenAt m
          have bu := hst.onesU.get hkU
          have bd := hst.onesD.get hmD
          obtain ⟨g, hg⟩ : ∃ g, g = Nat.gcd U'[k] D'[m] := ⟨_, rfl⟩
          have hg1 : 0 < g := by rw [hg]; exact Nat.gcd_pos_of_pos_left _ (by omega)
          have HCom : Hid (∀ W : World, Calls Tryz.prog 157 #[.int .u64 (U'[k] : Int), .int .u64 (D'[m] : Int)] W fun e w' => e = .returned (.int .u64 (g : Int)) ∧ ∃ n, w' = W.drewN n) :=
            fun W => by rw [hg, Nat.gcd_comm]; exact common_any _ _ W bu.2 bd.2
          have HST := Lib.hid (hst.step hkU hmD g hg)
          clear hg
          generalize hu : U'[k] = x at *
          generalize hv : D'[m] = y at *
          have HU := Lib.hid hu
          have HV := Lib.hid hv
          clear hu hv
          go_wp2
          go_quiet ((go_at_call 157; exact Calls.quiet_of (HCom.out _)))
          go_wp2
          have hs3 := (hown3.stored k (.int .u64 ((x / g : Nat) : Int))).1
          have hs4 := (hown4.stored m (.int .u64 ((y / g : Nat) : Int))).1
          rw [u64s_set] at hs3 hs4
          have n3 := ownsRow_setCell_other (own_drewN hs3 nq) (a := ⟨g4, m, none⟩) (by simpa [Value.ownBlock] using hne) (.int .u64 ((y / g : Nat) : Int))
          go_roundw
          case rel =>
            refine ⟨m + 1, U'.set k (x / g), D'.set m (y / g), by omega, by go_num, ?_, ?_, HST.out, ?_, ?_⟩
            all_goals rw [wrap_div x g bu.2, wrap_div y g bd.2]
            · exact n3
            · exact (own_stored (ownsRow_setCell_other (own_drewN hown4 nq) (a := ⟨g3, k, none⟩) (by simpa [Value.ownBlock] using hne') (.int .u64 ((x / g : Nat) : Int))) m (y / g))
            · exact ((below_drewN hbw nq).setCell (p := ⟨g3, k, none⟩) hg3 _).setCell (p := ⟨g4, m, none⟩) hg4 _
            · rw [heap_setCell_other _ ⟨g4, m, none⟩ _ _ (by rintro e; exact own_not_box (by rw [e]; exact hown4) hres (by decide)), heap_setCell_other _ ⟨g3, k, none⟩ _ _ (by rintro e; exact own_not_box (by rw [e]; exact hown3) hres (by decide))]
              exact hres
          case measure => simp [intOf]; omega
        · have : m = D.length := by omega
          subst this
          go_wp2
          go_roundw
          case rel => exact ⟨k + 1, U', D', by omega, by go_num, hown3, hown4, (by rw [← hst.lenD] at hst; exact hst.next), hbw, hres⟩
          case measure => simp [intOf]; omega
    · have : k = U.length := by omega
      subst this
      have HST := Lib.hid hst
      clear hst
      go_wp2_with fail
      refine (trimmed_any _ U' _ (Sl.of_own hown3) (by rw [HST.out.lenU]; omega)).mono ?_
      rintro e w3 ⟨r1, rfl, hb3, hsl1⟩
      obtain ⟨A5, c5, rfl, hsl1⟩ := own_shape hsl1
      have hres3 := (hb3.block _ (lt_of_block hres)).trans hres
      go_wp2_with fail
      refine (trimmed_any _ D' _ ((Sl.of_own hown4).below hb3) (by rw [HST.out.lenD]; omega)).mono ?_
      rintro e w4 ⟨r2, rfl, hb4, hsl2⟩
      obtain ⟨A6, c6, rfl, hsl2⟩ := own_shape hsl2
      have hres4 := (hb4.block _ (lt_of_block hres3)).trans hres3
      have c0 := cell_of_row w4 _ 0 _ _ _ hres4
      have c1 := cell_of_row w4 _ 1 _ _ _ hres4
      have z0 := frozen_of_row w4 _ 0 _ _ hres4
      have z1 := frozen_of_row w4 _ 1 _ _ hres4
      simp at c0 c1
      go_wp2
      have l0 := hbw.size
      have l1 := lt_of_block hres
      have l3 := hb3.size
      have o1 := Sl.of_own (ownsRow_setCell_below (ownsRow_setCell_below (own_below hsl1 hb4) (a := ⟨w.heap.size + 1, 0, none⟩) (by simpa using l1) (.slice A5 (strike U').length c5)) (a := ⟨w.heap.size + 1, 1, none⟩) (by simpa using l1) (.slice A6 (strike D').length c6))
      have o2 := Sl.of_own (ownsRow_setCell_below (ownsRow_setCell_below hsl2 (a := ⟨w.heap.size + 1, 0, none⟩) (by simp; omega) (.slice A5 (strike U').length c5)) (a := ⟨w.heap.size + 1, 1, none⟩) (by simp; omega) (.slice A6 (strike D').length c6))
      have hbe : Below w.heap.size w ((w4.setCell ⟨w.heap.size + 1, 0, none⟩ (.slice A5 (strike U').length c5)).setCell ⟨w.heap.size + 1, 1, none⟩ (.slice A6 (strike D').length c6)) :=
        ((below_then (below_then hbw hb3) hb4).setCell (p := ⟨w.heap.size + 1, 0, none⟩) (by simp) _).setCell (p := ⟨w.heap.size + 1, 1, none⟩) (by simp) _
      exact bodyPost_ret (v := .agg #[.slice A5 (strike U').length c5, .slice A6 (strike D').length c6]) (by simp [results, Tryz.results132, go_sem, c0, c1]) rfl
        ⟨_, strike U', strike D', rfl, hbe, ⟨_, _, rfl, o1, o2⟩, (by have h := HST.out; have e := h.lenU; rw [← e] at h; exact h.red), by have := strike_length U'; rw [HST.out.lenU] at this; exact this, by have := strike_length D'; rw [HST.out.lenD] at this; exact this⟩
end

section
-- Times
open Go Go.RowKit
/-- A product's value, with the shapes of its slices. -/
theorem Pr.shape {w : World} {v : Value} {U D : List Nat} (h : Pr w v U D) : ∃ A n c B m d, v = .agg #[.slice A n c, .slice B m d] ∧ Sl w 1 (.slice A n c) (u64s U) ∧ Sl w 1 (.slice B m d) (u64s D) := by
  obtain ⟨s1, s2, rfl, h1, h2⟩ := h
  obtain ⟨A, n, c, rfl, h1⟩ := h1.shape
  obtain ⟨B, m, d, rfl, h2⟩ := h2.shape
  exact ⟨A, n, c, B, m, d, rfl, h1, h2⟩
end

section
-- Ratio
open Go Go.RowKit
/-- Is N/D a ratio? -/
def isR (N D : Int) : Bool := decide (1 ≤ D) && (decide (D ≤ 1048576) && (decide (-1099511627776 ≤ N) && (decide (N ≤ 1099511627776) && decide (Nat.gcd N.natAbs D.natAbs = 1))))
theorem isR_iff {N D : Int} : isR N D = true ↔ 1 ≤ D ∧ D ≤ 1048576 ∧ -1099511627776 ≤ N ∧ N ≤ 1099511627776 ∧ Nat.gcd N.natAbs D.natAbs = 1 := by
  simp [isR]
theorem beq_gcd (a b : Nat) : (((Nat.gcd a b : Nat) : Int) == 1) = decide (Nat.gcd a b = 1) := by
  rw [Bool.eq_iff_iff]; simp; omega
theorem beq_gcd' (a b : Nat) : (((Nat.gcd a b : Nat) : Int) == 1) = decide (Nat.gcd b a = 1) := by
  rw [beq_gcd, Bool.eq_iff_iff, decide_eq_true_eq, decide_eq_true_eq, Nat.gcd_comm]
/-- A ratio, and an error. -/
structure RR where
  n : Int
  d : Int
  e : Int
/-- As a function returns it. -/
def rrV (r : RR) : Value := .tuple #[.agg #[.int .i64 r.n, .int .i64 r.d], .int .i64 r.e]
/-- The ratio of a number; ErrBig: it is too big. -/
def fit (q : Rat) : RR := if q.num.natAbs ≤ 1099511627776 ∧ q.den ≤ 1048576 then ⟨q.num, q.den, 0⟩ else ⟨0, 0, 6⟩
theorem fit_yes {q : Rat} (h1 : q.num.natAbs ≤ 1099511627776) (h2 : q.den ≤ 1048576) : fit q = ⟨q.num, q.den, 0⟩ := if_pos ⟨h1, h2⟩
theorem fit_no {q : Rat} (h : ¬ (q.num.natAbs ≤ 1099511627776 ∧ q.den ≤ 1048576)) : fit q = ⟨0, 0, 6⟩ := if_neg h
/-- With a sign. -/
def sgn (neg : Bool) (q : Rat) : Rat := if neg then -q else q
theorem Red.fit_yes {X Y : List Nat} {q : Rat} (h : Red X Y q) (neg : Bool) (h1 : prodN X ≤ 1099511627776) (h2 : prodN Y ≤ 1048576) :
    fit (sgn neg q) = ⟨if neg then -(prodN X : Int) else (prodN X : Int), prodN Y, 0⟩ := by
  have hn := h.num
  have hd := h.den
  cases neg
  · simp only [sgn, Bool.false_eq_true, if_false]
    rw [Go.Proofs.YtdmcopjbckelmaaGreatDoor.fit_yes (by omega) (by omega), hn, hd]
  · simp only [sgn, if_true]
    rw [Go.Proofs.YtdmcopjbckelmaaGreatDoor.fit_yes (by rw [Rat.neg_num]; omega) (by rw [Rat.neg_den]; omega), Rat.neg_num, Rat.neg_den, hn, hd]
theorem Red.fit_no {X Y : List Nat} {q : Rat} (h : Red X Y q) (neg : Bool) (hh : ¬ (prodN X ≤ 1099511627776 ∧ prodN Y ≤ 1048576)) : fit (sgn neg q) = ⟨0, 0, 6⟩ := by
  have hn := h.num
  have hd := h.den
  cases neg
  · simp only [sgn, Bool.false_eq_true, if_false]
    exact Go.Proofs.YtdmcopjbckelmaaGreatDoor.fit_no (by omega)
  · simp only [sgn, if_true]
    exact Go.Proofs.YtdmcopjbckelmaaGreatDoor.fit_no (by rw [Rat.neg_num, Rat.neg_den]; omega)
theorem within_yes (v : Value) (l : List Nat) (most : Nat) (w : World) (hv : Sl w 1 v (u64s l)) (ho : Ones l) (hm0 : 1 ≤ most) (hm : most < 18446744073709551616) (h : prodN l ≤ most) :
    Calls Tryz.prog 133 #[v, .int .u64 most] w fun e w' => e = .returned (.tuple #[.int .u64 (prodN l : Int), .bool true]) ∧ ∃ n, w' = w.drewN n :=
  (within_any v l most w hv ho hm0 hm).mono fun _ _ ⟨hp, hn⟩ => ⟨hp.elim (·.2) (fun h' => absurd h h'.1), hn⟩
theorem within_no (v : Value) (l : List Nat) (most : Nat) (w : World) (hv : Sl w 1 v (u64s l)) (ho : Ones l) (hm0 : 1 ≤ most) (hm : most < 18446744073709551616) (h : ¬ prodN l ≤ most) :
    Calls Tryz.prog 133 #[v, .int .u64 most] w fun e w' => e = .returned (.tuple #[.int .u64 0, .bool false]) ∧ ∃ n, w' = w.drewN n :=
  (within_any v l most w hv ho hm0 hm).mono fun _ _ ⟨hp, hn⟩ => ⟨hp.elim (fun h' => absurd h'.1 h) (·.2), hn⟩
set_option maxRecDepth 100000 in
set_option maxHeartbeats 1000000 in
theorem pratio_any (v : Value) (U D : List Nat) (neg : Bool) (w : World) (hv : Pr w v U D) (hU : Ones U) (hD : Ones D) (lU : U.length ≤ 17592186044415) (lD : D.length ≤ 17592186044415) :
    Calls Tryz.prog 106 #[v, .bool neg] w fun e w' => e = .returned (rrV (fit (sgn neg (val U D)))) ∧ Below w.heap.size w w' := by
  obtain ⟨A, n, c, B, m, d, rfl, hs1, hs2⟩ := hv.shape
  have hv' : Pr ((w.alloc (.cells #[.slice A n c, .slice B m d] 148)).alloc (.cells #[.int .i64 0, .int .i64 0] 32)) (.agg #[.slice A n c, .slice B m d]) U D := ⟨_, _, rfl, (hs1.alloc _).alloc _, (hs2.alloc _).alloc _⟩
  obtain ⟨W, hW⟩ : ∃ W, (w.alloc (.cells #[.slice A n c, .slice B m d] 148)).alloc (.cells #[.int .i64 0, .int .i64 0] 32) = W := ⟨_, rfl⟩
  have hwW : Below w.heap.size w W := by rw [← hW]; exact ((Below.refl _ _).alloc (Nat.le_refl _) _).alloc (by simp) _
  have b0 : W.heap[w.heap.size]? = some (.cells #[.slice A n c, .slice B m d] 148 (0, 0)) := by
    rw [← hW]; exact heap_alloc2_old _ _ _
  have b1 : W.heap[w.heap.size + 1]? = some (.cells #[.int .i64 0, .int .i64 0] 32 (0, 0)) := by
    rw [← hW]; exact heap_alloc2_new _ _ _
  rw [hW] at hv'
  have HB0 := Lib.hid b0
  have HB1 := Lib.hid b1
  have hsz := lt_of_block b1
  have e0 := cell_of_row W _ 0 _ _ _ b0
  have e1 := cell_of_row W _ 1 _ _ _ b0
  simp at e0 e1
  clear b0 b1 hv
  go_enter Tryz.func106, Tryz.ntmps106
  go_wp2_with fail
  refine (reduced_any _ U D _ hv' hU hD lU lD).mono ?_
  rintro e w1 ⟨r, X, Y, rfl, hb1, hpr, hred, hlx, hly⟩
  obtain ⟨A1, n1, c1, B1, m1, d1, rfl, hx, hy⟩ := hpr.shape
  have p0 := (hb1.block _ (lt_of_block HB0.out)).trans HB0.out
  have p1 := (hb1.block _ (lt_of_block HB1.out)).trans HB1.out
  have c0 := cell_of_row w1 _ 0 _ _ _ p0
  have c1' := cell_of_row w1 _ 1 _ _ _ p0
  have z0 := frozen_of_row w1 _ 0 _ _ p0
  have z1 := frozen_of_row w1 _ 1 _ _ p0
  have r0 := cell_of_row w1 _ 0 _ _ _ p1
  have r1 := cell_of_row w1 _ 1 _ _ _ p1
  have y0 := frozen_of_row w1 _ 0 _ _ p1
  have y1 := frozen_of_row w1 _ 1 _ _ p1
  simp at c0 c1' r0 r1
  by_cases hX : prodN X ≤ 1099511627776
  · by_cases hY : prodN Y ≤ 1048576
    · have HF := Lib.hid (hred.fit_yes neg hX hY)
      cases neg
      · go_wp2_with (first | (go_at_call_of 133 (Value.slice A1 n1 c1); refine (within_yes _ X 1099511627776 _ (hx.box_ c0 c1' _ _) hred.onesU (by decide) (by decide) hX).mono ?_; rintro e w2 ⟨rfl, k2, rfl⟩) | (go_at_call_of 133 (Value.slice B1 m1 d1); refine (within_yes _ Y 1048576 _ ((hy.box_ c0 c1' _ _).drewN _) hred.onesD (by decide) (by decide) hY).mono ?_; rintro e w3 ⟨rfl, k3, rfl⟩))
        refine bodyPost_ret (v := .tuple #[.agg #[.int .i64 (prodN X : Int), .int .i64 (prodN Y : Int)], .int .i64 0]) (by simp [results, Tryz.results106, go_sem, r0, r1]) rfl ⟨by rw [HF.out]; rfl, ?_⟩
        exact ((below_drewN (((below_then hwW hb1).setCell (p := ⟨w.heap.size, 0, none⟩) (Nat.le_refl _) _).setCell (p := ⟨w.heap.size, 1, none⟩) (Nat.le_refl _) _) _).setCell (p := ⟨w.heap.size + 1, 0, none⟩) (by simp) _).setCell (p := ⟨w.heap.size + 1, 1, none⟩) (by simp) _
      · go_wp2_with (first | (go_at_call_of 133 (Value.slice A1 n1 c1); refine (within_yes _ X 1099511627776 _ (hx.box_ c0 c1' _ _) hred.onesU (by decide) (by decide) hX).mono ?_; rintro e w2 ⟨rfl, k2, rfl⟩) | (go_at_call_of 133 (Value.slice B1 m1 d1); refine (within_yes _ Y 1048576 _ ((hy.box_ c0 c1' _ _).drewN _) hred.onesD (by decide) (by decide) hY).mono ?_; rintro e w3 ⟨rfl, k3, rfl⟩))
        refine bodyPost_ret (v := .tuple #[.agg #[.int .i64 (-(prodN X : Int)), .int .i64 (prodN Y : Int)], .int .i64 0]) (by simp [results, Tryz.results106, go_sem, r0, r1]) rfl ⟨by rw [HF.out]; rfl, ?_⟩
        exact ((below_drewN (((below_then hwW hb1).setCell (p := ⟨w.heap.size, 0, none⟩) (Nat.le_refl _) _).setCell (p := ⟨w.heap.size, 1, none⟩) (Nat.le_refl _) _) _).setCell (p := ⟨w.heap.size + 1, 0, none⟩) (by simp) _).setCell (p := ⟨w.heap.size + 1, 1, none⟩) (by simp) _
    · have HF := Lib.hid (hred.fit_no neg (fun h => hY h.2))
      go_wp2_with (first | (go_at_call_of 133 (Value.slice A1 n1 c1); refine (within_yes _ X 1099511627776 _ (hx.box_ c0 c1' _ _) hred.onesU (by decide) (by decide) hX).mono ?_; rintro e w2 ⟨rfl, k2, rfl⟩) | (go_at_call_of 133 (Value.slice B1 m1 d1); refine (within_no _ Y 1048576 _ ((hy.box_ c0 c1' _ _).drewN _) hred.onesD (by decide) (by decide) hY).mono ?_; rintro e w3 ⟨rfl, k3, rfl⟩))
      refine bodyPost_ret (v := .tuple #[.agg #[.int .i64 0, .int .i64 0], .int .i64 6]) (by simp [results, Tryz.results106, go_sem, r0, r1]) rfl ⟨by rw [HF.out]; rfl, ?_⟩
      exact ((below_drewN (((below_then hwW hb1).setCell (p := ⟨w.heap.size, 0, none⟩) (Nat.le_refl _) _).setCell (p := ⟨w.heap.size, 1, none⟩) (Nat.le_refl _) _) _).setCell (p := ⟨w.heap.size + 1, 0, none⟩) (by simp) _).setCell (p := ⟨w.heap.size + 1, 1, none⟩) (by simp) _
  · have HF := Lib.hid (hred.fit_no neg (fun h => hX h.1))
    by_cases hY : prodN Y ≤ 1048576
    · go_wp2_with (first | (go_at_call_of 133 (Value.slice A1 n1 c1); refine (within_no _ X 1099511627776 _ (hx.box_ c0 c1' _ _) hred.onesU (by decide) (by decide) hX).mono ?_; rintro e w2 ⟨rfl, k2, rfl⟩) | (go_at_call_of 133 (Value.slice B1 m1 d1); refine (within_yes _ Y 1048576 _ ((hy.box_ c0 c1' _ _).drewN _) hred.onesD (by decide) (by decide) hY).mono ?_; rintro e w3 ⟨rfl, k3, rfl⟩))
      refine bodyPost_ret (v := .tuple #[.agg #[.int .i64 0, .int .i64 0], .int .i64 6]) (by simp [results, Tryz.results106, go_sem, r0, r1]) rfl ⟨by rw [HF.out]; rfl, ?_⟩
      exact ((below_drewN (((below_then hwW hb1).setCell (p := ⟨w.heap.size, 0, none⟩) (Nat.le_refl _) _).setCell (p := ⟨w.heap.size, 1, none⟩) (Nat.le_refl _) _) _).setCell (p := ⟨w.heap.size + 1, 0, none⟩) (by simp) _).setCell (p := ⟨w.heap.size + 1, 1, none⟩) (by simp) _
    · go_wp2_with (first | (go_at_call_of 133 (Value.slice A1 n1 c1); refine (within_no _ X 1099511627776 _ (hx.box_ c0 c1' _ _) hred.onesU (by decide) (by decide) hX).mono ?_; rintro e w2 ⟨rfl, k2, rfl⟩) | (go_at_call_of 133 (Value.slice B1 m1 d1); refine (within_no _ Y 1048576 _ ((hy.box_ c0 c1' _ _).drewN _) hred.onesD (by decide) (by decide) hY).mono ?_; rintro e w3 ⟨rfl, k3, rfl⟩))
      refine bodyPost_ret (v := .tuple #[.agg #[.int .i64 0, .int .i64 0], .int .i64 6]) (by simp [results, Tryz.results106, go_sem, r0, r1]) rfl ⟨by rw [HF.out]; rfl, ?_⟩
      exact ((below_drewN (((below_then hwW hb1).setCell (p := ⟨w.heap.size, 0, none⟩) (Nat.le_refl _) _).setCell (p := ⟨w.heap.size, 1, none⟩) (Nat.le_refl _) _) _).setCell (p := ⟨w.heap.size + 1, 0, none⟩) (by simp) _).setCell (p := ⟨w.heap.size + 1, 1, none⟩) (by simp) _
end

section
-- Ratio2
open Go Go.RowKit
/-- metro's variable zero reads 0/1. -/
def Zw (w : World) : Prop := w.cell? ⟨0, 0, none⟩ = some (.int .i64 0) ∧ w.cell? ⟨0, 1, none⟩ = some (.int .i64 1)
theorem Zw.below {w w' : World} (h : Zw w) (hb : Below w.heap.size w w') : Zw w' := ⟨below_cell hb h.1, below_cell hb h.2⟩
/-- The ratio of n divided by d. -/
def ratioF (n d : Int) : RR := if d = 0 then ⟨0, 0, 9⟩ else fit ((n : Rat) / (d : Rat))
theorem castI (n : Int) : ((n.natAbs : Nat) : Rat) = if n < 0 then -(n : Rat) else (n : Rat) := by
  rcases Int.natAbs_eq n with h | h
  · rw [if_neg (by omega)]
    have : ((n.natAbs : Int) : Rat) = ((n : Int) : Rat) := by rw [← h]
    exact_mod_cast this
  · by_cases h0 : n < 0
    · rw [if_pos h0]
      have : ((n.natAbs : Int) : Rat) = ((-n : Int) : Rat) := by congr 1; omega
      exact_mod_cast this
    · have : n = 0 := by omega
      subst this
      simp
theorem sgn_ratio (n d : Int) (hd : d ≠ 0) : sgn (!(decide (n < 0) == decide (d < 0))) (val [n.natAbs] [d.natAbs]) = (n : Rat) / (d : Rat) := by
  have hd' : (d : Rat) ≠ 0 := by
    intro h
    exact hd (by exact_mod_cast h)
  have e : val [n.natAbs] [d.natAbs] = ((n.natAbs : Nat) : Rat) / ((d.natAbs : Nat) : Rat) := by simp [val, prodN]
  rw [e, castI, castI]
  by_cases h1 : n < 0 <;> by_cases h2 : d < 0 <;> simp [h1, h2, sgn] <;> grind
theorem fit_zero : fit 0 = ⟨0, 1, 0⟩ := by
  rw [fit_yes (by simp) (by simp)]
  rfl
attribute [local go_sem] rrV
set_option maxRecDepth 100000 in
set_option maxHeartbeats 1000000 in
theorem ratio_any (n d : Int) (w : World) (hz : Zw w) (h1 : -9223372036854775808 ≤ n) (h2 : n ≤ 9223372036854775807) (h3 : -9223372036854775808 ≤ d) (h4 : d ≤ 9223372036854775807) :
    Calls Tryz.prog 64 #[.int .i64 n, .int .i64 d] w fun e w' => e = .returned (rrV (ratioF n d)) ∧ Below w.heap.size w w' := by
  by_cases hd : d = 0
  · subst hd
    have HF := Lib.hid (show ratioF n 0 = ⟨0, 0, 9⟩ from if_pos rfl)
    go_enter Tryz.func64, Tryz.ntmps64
    go_wp2
    exact bodyPost_ret (v := .tuple #[.agg #[.int .i64 0, .int .i64 0], .int .i64 9]) (by simp [results, Tryz.results64, go_sem]) rfl ⟨by rw [HF.out]; rfl, below_alloc' _ _⟩
  · have bd : (d == 0) = false := by simpa using hd
    by_cases hn : n = 0
    · subst hn
      have HF := Lib.hid (show ratioF 0 d = ⟨0, 1, 0⟩ by
        unfold ratioF
        rw [if_neg hd]
        have : ((0 : Int) : Rat) / (d : Rat) = 0 := by simp [Rat.div_def]
        rw [this, fit_zero])
      clear hd
      obtain ⟨hz0, hz1⟩ := hz
      have l0 := block_lt_of_cell hz0
      simp at l0
      go_enter Tryz.func64, Tryz.ntmps64
      go_wp2
      exact bodyPost_ret (v := .tuple #[.agg #[.int .i64 0, .int .i64 1], .int .i64 0]) (by simp [results, Tryz.results64, go_sem]) rfl ⟨by rw [HF.out]; rfl, below_alloc' _ _⟩
    · have bn : (n == 0) = false := by simpa using hn
      have HF := Lib.hid (show ratioF n d = fit ((n : Rat) / (d : Rat)) from if_neg hd)
      have HS := Lib.hid (sgn_ratio n d hd)
      have on : Ones [n.natAbs] := Ones.cons (by omega) (by omega) Ones.nil
      have od : Ones [d.natAbs] := Ones.cons (by omega) (by omega) Ones.nil
      clear hd hn
      go_enter Tryz.func64, Tryz.ntmps64
      go_wp2_with (first | (go_at_call_of 105 (Value.int .i64 n); refine (size_any n _ h1 h2).mono ?_; rintro e w1 ⟨rfl, rfl⟩) | (go_at_call_of 105 (Value.int .i64 d); refine (size_any d _ h3 h4).mono ?_; rintro e w1 ⟨rfl, rfl⟩))
      have hP : Pr (((w.alloc (.cells #[.int .i64 0, .int .i64 0] 32)).alloc (.cells #[.int .u64 (n.natAbs : Int)] 144)).alloc (.cells #[.int .u64 (d.natAbs : Int)] 144)) (.agg #[.slice (some ⟨w.heap.size + 1, 0, none⟩) 1 1, .slice (some ⟨w.heap.size + 1 + 1, 0, none⟩) 1 1]) [n.natAbs] [d.natAbs] := by
        have a1 := (Sl.new (s := 1) (w.alloc (.cells #[.int .i64 0, .int .i64 0] 32)) 144 1 1 #[.int .u64 (n.natAbs : Int)] rfl (by omega) (by omega)).alloc (.cells #[.int .u64 (d.natAbs : Int)] 144)
        have a2 := Sl.new (s := 1) ((w.alloc (.cells #[.int .i64 0, .int .i64 0] 32)).alloc (.cells #[.int .u64 (n.natAbs : Int)] 144)) 144 1 1 #[.int .u64 (d.natAbs : Int)] rfl (by omega) (by omega)
        rw [World.size_alloc] at a1 a2
        rw [World.size_alloc] at a2
        exact ⟨_, _, rfl, a1, a2⟩
      have hc := pratio_any _ [n.natAbs] [d.natAbs] (!(decide (n < 0) == decide (d < 0))) _ hP on od (by simp) (by simp)
      go_fit hc
      rintro e w1 ⟨rfl, hb1⟩
      rw [HS.out]
      have b0 : w1.heap[w.heap.size]? = some (.cells #[.int .i64 0, .int .i64 0] 32 (0, 0)) := by
        rw [hb1.block _ (by simp; omega), Below.heap_alloc _ _ _ (by simp; omega)]
        exact heap_alloc2_old _ _ _
      have r0 := cell_of_row w1 _ 0 _ _ _ b0
      have r1 := cell_of_row w1 _ 1 _ _ _ b0
      have y0 := frozen_of_row w1 _ 0 _ _ b0
      have y1 := frozen_of_row w1 _ 1 _ _ b0
      simp at r0 r1
      generalize fit ((n : Rat) / (d : Rat)) = r at *
      go_wp2
      exact bodyPost_ret (v := .tuple #[.agg #[.int .i64 r.n, .int .i64 r.d], .int .i64 r.e]) (by simp [results, Tryz.results64, go_sem, r0, r1]) rfl ⟨by rw [HF.out]; rfl, ((((((Below.refl w.heap.size w).alloc (Nat.le_refl _) _).alloc (by simp) _).alloc (by simp; omega) _).trans (hb1.mono (by simp; omega))).setCell (p := ⟨w.heap.size, 0, none⟩) (by simp) _).setCell (p := ⟨w.heap.size, 1, none⟩) (by simp) _⟩
end

section
-- Add
open Go Go.RowKit
attribute [local go_sem] rrV
/-- What a box of two numbers is asked for. -/
theorem box2i {w : World} {b : Nat} {t : TypeId} {x y : Int} (hb : w.heap[b]? = some (.cells #[.int .i64 x, .int .i64 y] t (0, 0))) :
    w.cell? ⟨b, 0, none⟩ = some (.int .i64 x) ∧ w.cell? ⟨b, 1, none⟩ = some (.int .i64 y) ∧ w.frozen? ⟨b, 0, none⟩ = false ∧ w.frozen? ⟨b, 1, none⟩ = false :=
  ⟨cell_of_row w b 0 _ _ _ hb, cell_of_row w b 1 _ _ _ hb, frozen_of_row w b 0 _ _ hb, frozen_of_row w b 1 _ _ hb⟩
theorem blk_below {w w' : World} {b : Nat} {o : Obj} (hb : w.heap[b]? = some o) (h : Below w.heap.size w w') : w'.heap[b]? = some o := (h.block _ (lt_of_block hb)).trans hb
/-- The number of a ratio. -/
def rat (N D : Int) : Rat := (N : Rat) / (D : Rat)
theorem mul_bd {a b : Int} {x y : Int} (h1 : -x ≤ a) (h2 : a ≤ x) (h3 : 0 ≤ b) (h4 : b ≤ y) (hx : 0 ≤ x) : -(x * y) ≤ a * b ∧ a * b ≤ x * y := by
  have e1 : a * b ≤ x * b := Int.mul_le_mul_of_nonneg_right h2 h3
  have e2 : x * b ≤ x * y := Int.mul_le_mul_of_nonneg_left h4 hx
  have e3 : -x * b ≤ a * b := Int.mul_le_mul_of_nonneg_right h1 h3
  rw [Int.neg_mul] at e3
  omega
theorem isR_bd {N D : Int} (h : isR N D = true) : 1 ≤ D ∧ D ≤ 1048576 ∧ -1099511627776 ≤ N ∧ N ≤ 1099511627776 := by
  have := isR_iff.1 h; omega
/-- What the walk of a product of a numerator and a denominator wants. -/
theorem prod_bd {N D M E : Int} (h : isR N D = true) (k : isR M E = true) : -1152921504606846976 ≤ N * E ∧ N * E ≤ 1152921504606846976 := by
  have h1 := isR_bd h; have h2 := isR_bd k
  have := mul_bd (a := N) (b := E) (x := 1099511627776) (y := 1048576) (by omega) (by omega) (by omega) (by omega) (by decide)
  omega
theorem den_bd {N D M E : Int} (h : isR N D = true) (k : isR M E = true) : 1 ≤ D * E ∧ D * E ≤ 1099511627776 := by
  have h1 := isR_bd h; have h2 := isR_bd k
  have := mul_bd (a := D) (b := E) (x := 1048576) (y := 1048576) (by omega) (by omega) (by omega) (by omega) (by decide)
  have : 0 < D * E := Int.mul_pos (by omega) (by omega)
  omega
theorem isR_ne {N D : Int} (h : isR N D = true) : (D : Rat) ≠ 0 := by
  have := (isR_bd h).1
  intro h0
  have : D = 0 := by exact_mod_cast h0
  omega
theorem ratioF_add {N D M E : Int} (h : isR N D = true) (k : isR M E = true) : ratioF (N * E + M * D) (D * E) = fit (rat N D + rat M E) := by
  have := (den_bd h k).1
  unfold ratioF
  rw [if_neg (by omega)]
  congr 1
  have h1 := isR_ne h; have h2 := isR_ne k
  unfold rat
  rw [Rat.intCast_add, Rat.intCast_mul, Rat.intCast_mul, Rat.intCast_mul]
  grind
/-- An operation on two ratios. -/
def opF (N D M E : Int) (r : RR) : RR := if isR N D && isR M E then r else ⟨0, 0, 2⟩
theorem opF_yes {N D M E : Int} {r : RR} (h : isR N D = true) (k : isR M E = true) : opF N D M E r = r := by simp [opF, h, k]
theorem opF_no1 {N D M E : Int} {r : RR} (h : isR N D = false) : opF N D M E r = ⟨0, 0, 2⟩ := by simp [opF, h]
theorem opF_no2 {N D M E : Int} {r : RR} (k : isR M E = false) : opF N D M E r = ⟨0, 0, 2⟩ := by simp [opF, k]
/-- An int's bounds. -/
def Bd (n : Int) : Prop := -9223372036854775808 ≤ n ∧ n ≤ 9223372036854775807
end

section
-- Name
open Go Go.RowKit
/-- A byte of a name, as a number. -/
def okC (c : Int) : Bool := decide (97 ≤ c ∧ c ≤ 122) || decide (48 ≤ c ∧ c ≤ 57) || decide (c = 95)
def lowC (c : Int) : Bool := decide (97 ≤ c ∧ c ≤ 122)
/-- Is a string a name? -/
def nameB (s : ByteArray) : Bool :=
  decide (1 ≤ s.size) && decide (s.size ≤ 16) && (s.data.toList.head?.map fun c => lowC (c.toNat : Int)).getD false && s.data.toList.all fun c => okC (c.toNat : Int)
theorem nameB_len {s : ByteArray} (h : ¬ (1 ≤ s.size ∧ s.size ≤ 16)) : nameB s = false := by
  unfold nameB
  have : (decide (1 ≤ s.size) && decide (s.size ≤ 16)) = false := by
    rw [← Bool.decide_and]; exact decide_eq_false h
  rw [this]; simp
theorem head_get {s : ByteArray} (h : 0 < s.size) : s.data.toList.head? = some s[0] := by
  rw [List.head?_eq_getElem?]
  have : s.data.toList[0]? = some (s.data[0]'h) := by simp [h]
  exact this
theorem nameB_first {s : ByteArray} (h : 0 < s.size) (hc : lowC (s[0].toNat : Int) = false) : nameB s = false := by
  unfold nameB
  rw [head_get h]
  simp [hc]
theorem nameB_bad {s : ByteArray} {k : Nat} (h : k < s.size) (hc : okC (s[k].toNat : Int) = false) : nameB s = false := by
  unfold nameB
  have : (s.data.toList.all fun c => okC (c.toNat : Int)) = false := by
    rw [List.all_eq_false]
    refine ⟨s[k], ?_, by simp [hc]⟩
    have : s.data.toList[k]? = some (s.data[k]'h) := by
      rw [Array.getElem?_toList]
      exact Array.getElem?_eq_getElem h
    exact List.mem_of_getElem? this
  simp [this]
theorem nameB_good {s : ByteArray} (h1 : 1 ≤ s.size) (h2 : s.size ≤ 16) (hc : lowC (s[0].toNat : Int) = true) (h : ∀ j (hj : j < s.size), okC (s[j].toNat : Int) = true) : nameB s = true := by
  unfold nameB
  rw [head_get h1]
  have : (s.data.toList.all fun c => okC (c.toNat : Int)) = true := by
    rw [List.all_eq_true]
    intro c hcm
    obtain ⟨j, hj⟩ := List.getElem?_of_mem hcm
    have hjs : j < s.size := by
      rcases Nat.lt_or_ge j s.size with h | h
      · exact h
      · rw [Array.getElem?_toList, Array.getElem?_eq_none h] at hj; cases hj
    have e : s.data.toList[j]? = some (s.data[j]'hjs) := by
      rw [Array.getElem?_toList]
      exact Array.getElem?_eq_getElem hjs
    rw [e] at hj
    injection hj with hj
    rw [← hj]
    exact h j hjs
  simp [h1, h2, hc, this]
theorem okC_yes {c : Int} (h : (97 ≤ c ∧ c ≤ 122) ∨ (48 ≤ c ∧ c ≤ 57) ∨ c = 95) : okC c = true := by
  unfold okC; rcases h with h | h | h <;> simp [h]
theorem okC_no {c : Int} (h : ¬ ((97 ≤ c ∧ c ≤ 122) ∨ (48 ≤ c ∧ c ≤ 57) ∨ c = 95)) : okC c = false := by
  unfold okC
  rw [decide_eq_false (fun h' => h (.inl h')), decide_eq_false (fun h' => h (.inr (.inl h'))), decide_eq_false (fun h' => h (.inr (.inr h')))]; rfl
theorem lowC_no {c : Int} (h : ¬ (97 ≤ c ∧ c ≤ 122)) : lowC c = false := decide_eq_false h
/-- Seven kinds of bytes, with the walk's own test. -/
theorem byte_cases (c : Int) : (c < 48 ∧ (c != 95) = true) ∨ (48 ≤ c ∧ c ≤ 57 ∧ (c != 95) = true) ∨ (58 ≤ c ∧ c ≤ 94 ∧ (c != 95) = true) ∨ (95 ≤ c ∧ c ≤ 95 ∧ (c != 95) = false) ∨ (96 ≤ c ∧ c ≤ 96 ∧ (c != 95) = true) ∨
    (97 ≤ c ∧ c ≤ 122 ∧ (c != 95) = true) ∨ (122 < c ∧ (c != 95) = true) := by
  by_cases h : c = 95
  · subst h; simp
  · have hb : (c != 95) = true := by simpa using h
    simp only [hb]
    simp
    omega
theorem ne_empty {s : ByteArray} (h : 0 < s.size) : ¬ s = ByteArray.empty := by rintro rfl; simp at h
set_option maxHeartbeats 1000000 in
theorem isName_any (s : ByteArray) (w : World) (hs : (s.size : Int) ≤ 9223372036854775807) :
    Calls Tryz.prog 97 #[.string s] w fun e w' => e = .returned (.bool (nameB s)) ∧ w = w' := by
  by_cases hl : 1 ≤ s.size ∧ s.size ≤ 16
  · obtain ⟨hl1, hl2⟩ := hl
    have h0 : 0 < s.size := hl1
    have hne := ne_empty h0
    have e0 : ((s.size : Int) == 0) = false := by rw [beq_eq_false_iff_ne]; omega
    by_cases hc0 : (97 : Int) ≤ (s[0].toNat : Int) ∧ (s[0].toNat : Int) ≤ 122
    · obtain ⟨hc1, hc2⟩ := hc0
      have hlow : lowC (s[0].toNat : Int) = true := by simp [lowC, hc1, hc2]
      have HL := Lib.hid hlow
      clear hlow
      go_enter Tryz.func97, Tryz.ntmps97
      go_wp2
      go_loop [3, 4, 25] (fun _ _ i => ∃ k : Nat, k ≤ s.size ∧ i = .int .i64 k ∧ ∀ j (hj : j < s.size), j < k → okC (s[j].toNat : Int) = true) (fun _ _ i => s.size - (intOf i).toNat)
      case atStart => exact ⟨0, by omega, rfl, fun j _ hj => by omega⟩
      case round =>
        obtain ⟨k, hk, rfl, hz⟩ := hrel
        have HZ := Lib.hid hz
        clear hz
        by_cases hlt : k < s.size
        · rcases byte_cases (s[k].toNat : Int) with ⟨h1, hb⟩ | ⟨h1, h2, hb⟩ | ⟨h1, h2, hb⟩ | ⟨h1, h2, hb⟩ | ⟨h1, h2, hb⟩ | ⟨h1, h2, hb⟩ | ⟨h1, hb⟩
          · have HO := Lib.hid (nameB_bad hlt (okC_no (c := (s[k].toNat : Int)) (by omega)))
            go_wp2
            go_ret
            exact ⟨ret_bool HO.out.symm, rfl⟩
          · have HO := Lib.hid (okC_yes (c := (s[k].toNat : Int)) (by omega))
            go_wp2
            go_round
            case rel =>
              refine ⟨k + 1, by omega, by go_num, fun j hjs hj => ?_⟩
              rcases Nat.lt_or_ge j k with h | h
              · exact HZ.out j hjs h
              · have : j = k := by omega
                subst this
                exact HO.out
            case measure => simp [intOf]; omega
          · have HO := Lib.hid (nameB_bad hlt (okC_no (c := (s[k].toNat : Int)) (by omega)))
            go_wp2
            go_ret
            exact ⟨ret_bool HO.out.symm, rfl⟩
          · have HO := Lib.hid (okC_yes (c := (s[k].toNat : Int)) (by omega))
            go_wp2
            go_round
            case rel =>
              refine ⟨k + 1, by omega, by go_num, fun j hjs hj => ?_⟩
              rcases Nat.lt_or_ge j k with h | h
              · exact HZ.out j hjs h
              · have : j = k := by omega
                subst this
                exact HO.out
            case measure => simp [intOf]; omega
          · have HO := Lib.hid (nameB_bad hlt (okC_no (c := (s[k].toNat : Int)) (by omega)))
            go_wp2
            go_ret
            exact ⟨ret_bool HO.out.symm, rfl⟩
          · have HO := Lib.hid (okC_yes (c := (s[k].toNat : Int)) (by omega))
            go_wp2
            go_round
            case rel =>
              refine ⟨k + 1, by omega, by go_num, fun j hjs hj => ?_⟩
              rcases Nat.lt_or_ge j k with h | h
              · exact HZ.out j hjs h
              · have : j = k := by omega
                subst this
                exact HO.out
            case measure => simp [intOf]; omega
          · have HO := Lib.hid (nameB_bad hlt (okC_no (c := (s[k].toNat : Int)) (by omega)))
            go_wp2
            go_ret
            exact ⟨ret_bool HO.out.symm, rfl⟩
        · go_wp2
          go_ret
          exact ⟨ret_bool (nameB_good hl1 hl2 HL.out (fun j hj => HZ.out j hj (by omega))).symm, rfl⟩
    · have HN := Lib.hid (nameB_first h0 (lowC_no hc0))
      have hor : (s[0].toNat : Int) < 97 ∨ (122 : Int) < (s[0].toNat : Int) := by omega
      clear hc0
      rcases hor with h1 | h1
      all_goals
        go_enter Tryz.func97, Tryz.ntmps97
        go_wp2
        go_ret
        exact ⟨ret_bool HN.out.symm, rfl⟩
  · have HN := Lib.hid (nameB_len hl)
    by_cases h0 : 0 < s.size
    · have h16 : (16 : Int) < (s.size : Int) := by omega
      have hne := ne_empty h0
      have e0 : ((s.size : Int) == 0) = false := by rw [beq_eq_false_iff_ne]; omega
      clear hl
      go_enter Tryz.func97, Tryz.ntmps97
      go_wp2
      go_ret
      exact ⟨ret_bool HN.out.symm, rfl⟩
    · have e0 : s = ByteArray.empty := ByteArray.size_eq_zero_iff.1 (by omega)
      subst e0
      clear hl
      go_enter Tryz.func97, Tryz.ntmps97
      go_wp2
      go_ret
      exact ⟨ret_bool HN.out.symm, rfl⟩
theorem byte_cases' (c : Int) : (c < 48 ∧ (c != 95) = true ∧ decide (97 ≤ c) = false ∧ decide (48 ≤ c) = false) ∨ (48 ≤ c ∧ c ≤ 57 ∧ (c != 95) = true ∧ decide (97 ≤ c) = false ∧ decide (48 ≤ c) = true ∧ decide (c ≤ 57) = true) ∨
    (58 ≤ c ∧ c ≤ 94 ∧ (c != 95) = true ∧ decide (97 ≤ c) = false ∧ decide (48 ≤ c) = true ∧ decide (c ≤ 57) = false) ∨ (95 ≤ c ∧ c ≤ 95 ∧ (c != 95) = false ∧ decide (97 ≤ c) = false ∧ decide (48 ≤ c) = true ∧ decide (c ≤ 57) = false) ∨
    (96 ≤ c ∧ c ≤ 96 ∧ (c != 95) = true ∧ decide (97 ≤ c) = false ∧ decide (48 ≤ c) = true ∧ decide (c ≤ 57) = false) ∨
    (97 ≤ c ∧ c ≤ 122 ∧ (c != 95) = true ∧ decide (97 ≤ c) = true ∧ decide (c ≤ 122) = true) ∨ (122 < c ∧ (c != 95) = true ∧ decide (97 ≤ c) = true ∧ decide (c ≤ 122) = false ∧ decide (48 ≤ c) = true ∧ decide (c ≤ 57) = false) := by
  by_cases h : c = 95
  · subst h; simp
  · have hb : (c != 95) = true := by simpa using h
    simp only [hb, decide_eq_true_eq, decide_eq_false_iff_not]
    simp
    omega
set_option maxHeartbeats 1000000 in
theorem risName_any (s : ByteArray) (w : World) (hs : (s.size : Int) ≤ 9223372036854775807) :
    Calls Tryz.prog 113 #[.string s] w fun e w' => e = .returned (.bool (nameB s)) ∧ w = w' := by
  by_cases hl : 1 ≤ s.size ∧ s.size ≤ 16
  · obtain ⟨hl1, hl2⟩ := hl
    have h0 : 0 < s.size := hl1
    have hne := ne_empty h0
    have e0 : ((s.size : Int) == 0) = false := by rw [beq_eq_false_iff_ne]; omega
    by_cases hc0 : (97 : Int) ≤ (s[0].toNat : Int) ∧ (s[0].toNat : Int) ≤ 122
    · obtain ⟨hc1, hc2⟩ := hc0
      have hlow : lowC (s[0].toNat : Int) = true := by simp [lowC, hc1, hc2]
      have HL := Lib.hid hlow
      clear hlow
      go_enter Tryz.func113, Tryz.ntmps113
      go_wp2
      go_loop [3, 4] (fun i _ => ∃ k : Nat, k ≤ s.size ∧ i = .int .i64 k ∧ ∀ j (hj : j < s.size), j < k → okC (s[j].toNat : Int) = true) (fun i _ => s.size - (intOf i).toNat)
      case atStart => exact ⟨0, by omega, rfl, fun j _ hj => by omega⟩
      case round =>
        obtain ⟨k, hk, rfl, hz⟩ := hrel
        have HZ := Lib.hid hz
        clear hz
        by_cases hlt : k < s.size
        · rcases byte_cases' (s[k].toNat : Int) with ⟨h1, hb, d1, d2⟩ | ⟨h1, h2, hb, d1, d2, d3⟩ | ⟨h1, h2, hb, d1, d2, d3⟩ | ⟨h1, h2, hb, d1, d2, d3⟩ | ⟨h1, h2, hb, d1, d2, d3⟩ | ⟨h1, h2, hb, d1, d2⟩ | ⟨h1, hb, d1, d2, d3, d4⟩
          · have HO := Lib.hid (nameB_bad hlt (okC_no (c := (s[k].toNat : Int)) (by omega)))
            go_wp2
            go_ret
            exact ⟨ret_bool HO.out.symm, rfl⟩
          · have HO := Lib.hid (okC_yes (c := (s[k].toNat : Int)) (by omega))
            go_wp2
            go_round
            case rel =>
              refine ⟨k + 1, by omega, by go_num, fun j hjs hj => ?_⟩
              rcases Nat.lt_or_ge j k with h | h
              · exact HZ.out j hjs h
              · have : j = k := by omega
                subst this
                exact HO.out
            case measure => simp [intOf]; omega
          · have HO := Lib.hid (nameB_bad hlt (okC_no (c := (s[k].toNat : Int)) (by omega)))
            go_wp2
            go_ret
            exact ⟨ret_bool HO.out.symm, rfl⟩
          · have HO := Lib.hid (okC_yes (c := (s[k].toNat : Int)) (by omega))
            go_wp2
            go_round
            case rel =>
              refine ⟨k + 1, by omega, by go_num, fun j hjs hj => ?_⟩
              rcases Nat.lt_or_ge j k with h | h
              · exact HZ.out j hjs h
              · have : j = k := by omega
                subst this
                exact HO.out
            case measure => simp [intOf]; omega
          · have HO := Lib.hid (nameB_bad hlt (okC_no (c := (s[k].toNat : Int)) (by omega)))
            go_wp2
            go_ret
            exact ⟨ret_bool HO.out.symm, rfl⟩
          · have HO := Lib.hid (okC_yes (c := (s[k].toNat : Int)) (by omega))
            go_wp2
            go_round
            case rel =>
              refine ⟨k + 1, by omega, by go_num, fun j hjs hj => ?_⟩
              rcases Nat.lt_or_ge j k with h | h
              · exact HZ.out j hjs h
              · have : j = k := by omega
                subst this
                exact HO.out
            case measure => simp [intOf]; omega
          · have HO := Lib.hid (nameB_bad hlt (okC_no (c := (s[k].toNat : Int)) (by omega)))
            go_wp2
            go_ret
            exact ⟨ret_bool HO.out.symm, rfl⟩
        · go_wp2
          go_ret
          exact ⟨ret_bool (nameB_good hl1 hl2 HL.out (fun j hj => HZ.out j hj (by omega))).symm, rfl⟩
    · have HN := Lib.hid (nameB_first h0 (lowC_no hc0))
      have hor : (s[0].toNat : Int) < 97 ∨ (122 : Int) < (s[0].toNat : Int) := by omega
      clear hc0
      rcases hor with h1 | h1
      all_goals
        go_enter Tryz.func113, Tryz.ntmps113
        go_wp2
        go_ret
        exact ⟨ret_bool HN.out.symm, rfl⟩
  · have HN := Lib.hid (nameB_len hl)
    by_cases h0 : 0 < s.size
    · have h16 : (16 : Int) < (s.size : Int) := by omega
      have hne := ne_empty h0
      have e0 : ((s.size : Int) == 0) = false := by rw [beq_eq_false_iff_ne]; omega
      clear hl
      go_enter Tryz.func113, Tryz.ntmps113
      go_wp2
      go_ret
      exact ⟨ret_bool HN.out.symm, rfl⟩
    · have e0 : s = ByteArray.empty := ByteArray.size_eq_zero_iff.1 (by omega)
      subst e0
      clear hl
      go_enter Tryz.func113, Tryz.ntmps113
      go_wp2
      go_ret
      exact ⟨ret_bool HN.out.symm, rfl⟩
end

section
-- Units
open Go Go.RowKit Go.Shelf
attribute [local go_sem] Oper.semAt_some
/-- A unit: its sign and its factor, as Go has them. -/
structure Un where
  sign : ByteArray
  factor : Int
  hs : (sign.size : Int) ≤ 9223372036854775807
  hf : Bd factor
def unV (u : Un) : List Value := [.string u.sign, .int .i64 u.factor]
def unitsV (us : List Un) : List Value := us.flatMap unV
/-- A ladder's value: its name, its units. -/
def LadV (w : World) (v : Value) (nm : ByteArray) (us : List Un) : Prop := ∃ A n c, v = .agg #[.string nm, .slice A n c] ∧ Sl w 2 (.slice A n c) (unitsV us)
theorem LadV.below {w w' : World} {v : Value} {nm : ByteArray} {us : List Un} (h : LadV w v nm us) (hb : Below w.heap.size w w') : LadV w' v nm us := by
  obtain ⟨A, n, c, rfl, h⟩ := h
  exact ⟨A, n, c, rfl, h.below hb⟩
end

section
-- Map
open Go Go.RowKit Go.Shelf
attribute [local go_sem] Oper.semAt_some
theorem bytes_beq (a b : ByteArray) : (a == b) = decide (a = b) := by
  cases a with | mk a => cases b with | mk b =>
  show (a == b) = _
  by_cases h : a = b
  · subst h; simp
  · simp [h]
instance : LawfulBEq ByteArray where
  eq_of_beq h := by rw [bytes_beq] at h; exact of_decide_eq_true h
  rfl := by intro a; rw [bytes_beq]; exact decide_eq_true rfl
abbrev Kv := ByteArray × Value
/-- Block b is a map that holds m. -/
def MapS (w : World) (b : Nat) (m : List Kv) : Prop :=
  ∃ es c, w.heap[b]? = some (.map es c) ∧ es.toList.map (fun e => (e.key, e.val)) = m.map (fun p => (Value.string p.1, p.2))
theorem MapS.lt {w : World} {b : Nat} {m : List Kv} (h : MapS w b m) : b < w.heap.size := by
  obtain ⟨es, c, h, _⟩ := h; exact (Array.getElem?_eq_some_iff.1 h).1
theorem MapS.same {w w' : World} {b : Nat} {m : List Kv} (h : MapS w b m) (e : w'.heap[b]? = w.heap[b]?) : MapS w' b m := by
  obtain ⟨es, c, h, h'⟩ := h; exact ⟨es, c, e.trans h, h'⟩
theorem MapS.below {w w' : World} {b n : Nat} {m : List Kv} (h : MapS w b m) (hn : b < n) (hb : Below n w w') : MapS w' b m := h.same (hb.block _ hn)
theorem MapS.kept {w w' : World} {row : Option Nat} {b : Nat} {m : List Kv} (h : MapS w b m) (hg : w.grownBy w' row) (hne : some b ≠ row) : MapS w' b m := h.same (hg.block b h.lt hne)
theorem MapS.alloc {w : World} {b : Nat} {m : List Kv} (h : MapS w b m) (o : Obj) : MapS (w.alloc o) b m := h.kept (World.grownBy_alloc w o none) (by simp)
theorem MapS.drew {w : World} {b : Nat} {m : List Kv} (h : MapS w b m) : MapS w.drew b m := h
theorem MapS.new (w : World) : MapS (w.alloc (.map #[] 0)) w.heap.size [] := ⟨#[], 0, World.alloc_heap_new w _, rfl⟩
theorem MapS.setCell {w : World} {b : Nat} {m : List Kv} (h : MapS w b m) (p : Addr) (v : Value) : MapS (w.setCell p v) b m := by
  obtain ⟨es, c, hh, he⟩ := h
  refine ⟨es, c, ?_, he⟩
  by_cases e : p.block = b
  · simp only [World.setCell, Array.getElem?_modify]; rw [if_pos e, hh]; rfl
  · simp only [World.setCell, Array.getElem?_modify]; rw [if_neg e, hh]
theorem MapS.size {w : World} {b : Nat} {m : List Kv} (h : MapS w b m) : ∃ es c, w.heap[b]? = some (.map es c) ∧ es.size = m.length := by
  obtain ⟨es, ck, hb, he⟩ := h
  refine ⟨es, ck, hb, ?_⟩
  have := congrArg List.length he
  simpa using this
end

section
-- Check
open Go Go.RowKit Go.Shelf
attribute [local go_sem] Oper.semAt_some
/-- Block B holds just these cells. -/
def Cel (W : World) (B : Nat) (t : TypeId) (vs : Array Value) : Prop := W.heap[B]? = some (.cells vs t (0, 0))
theorem Cel.lt {W : World} {B : Nat} {t : TypeId} {vs : Array Value} (h : Cel W B t vs) : B < W.heap.size := (Array.getElem?_eq_some_iff.1 h).1
theorem Cel.kept {W W' : World} {row : Option Nat} {B : Nat} {t : TypeId} {vs : Array Value} (h : Cel W B t vs) (hg : W.grownBy W' row) (hne : some B ≠ row) : Cel W' B t vs := (hg.block B h.lt hne).trans h
theorem Cel.alloc {W : World} {B : Nat} {t : TypeId} {vs : Array Value} (h : Cel W B t vs) (o : Obj) : Cel (W.alloc o) B t vs := h.kept (World.grownBy_alloc W o none) (by simp)
theorem Cel.new (W : World) (t : TypeId) (vs : Array Value) : Cel (W.alloc (.cells vs t)) W.heap.size t vs := World.alloc_heap_new W _
theorem Cel.below {W W' : World} {B n : Nat} {t : TypeId} {vs : Array Value} (h : Cel W B t vs) (hn : B < n) (hb : Below n W W') : Cel W' B t vs := (hb.block _ hn).trans h
theorem Cel.own {β : Type} (B : Nat) (t : TypeId) (f : β → Array Value) : Own (fun s W => Cel W B t (f s)) := fun s X Y row hs hg hrow =>
  hs.kept hg (fun e' => by obtain ⟨o, ho, hc⟩ := hrow B e'.symm; rw [show X.heap[B]? = _ from hs] at ho; cases ho; cases hc)
theorem Cel.other {W : World} {B : Nat} {t : TypeId} {vs : Array Value} (h : Cel W B t vs) {p : Addr} (hne : p.block ≠ B) (u : Value) : Cel (W.setCell p u) B t vs := by
  unfold Cel at *
  rw [← h]
  simp only [World.setCell, Array.getElem?_modify]; rw [if_neg hne]
theorem Cel.cell {W : World} {B : Nat} {t : TypeId} {vs : Array Value} (h : Cel W B t vs) (k : Nat) (v : Value) (hv : vs[k]? = some v) : W.cell? ⟨B, k, none⟩ = some v := by simp [World.cell?, show W.heap[B]? = _ from h, hv]
theorem Cel.frozen {W : World} {B : Nat} {t : TypeId} {vs : Array Value} (h : Cel W B t vs) (k : Nat) : W.frozen? ⟨B, k, none⟩ = false := by simp [World.frozen?, show W.heap[B]? = _ from h]
end

section
-- Split
open Go Go.RowKit Go.Shelf
theorem Cel.setAt {W : World} {B : Nat} {t : TypeId} {vs : Array Value} (h : Cel W B t vs) (k : Nat) (v' : Value) : Cel (W.setCell ⟨B, k, none⟩ v') B t (vs.setIfInBounds k v') := by
  have e : W.heap[B]? = some (.cells vs t (0, 0)) := h
  show (W.setCell ⟨B, k, none⟩ v').heap[B]? = _
  unfold World.setCell
  rw [Array.getElem?_modify, if_pos rfl, e]
  rfl
end

section
-- Std
open Go Go.RowKit Go.Shelf
/-- A ladder: its name, its units. -/
structure La where
  nm : ByteArray
  us : List Un
  hn : (nm.size : Int) ≤ 9223372036854775807
def ladCells (ps : List (La × Value)) : List Value := ps.flatMap fun p => [.string p.1.nm, p.2]
/-- A slice of ladders. -/
def LadsV (w : World) (v : Value) (ls : List La) : Prop := ∃ ps : List (La × Value), ps.map (·.1) = ls ∧ Sl w 2 v (ladCells ps) ∧ ∀ p ∈ ps, Sl w 2 p.2 (unitsV p.1.us)
theorem LadsV.below {w w' : World} {v : Value} {ls : List La} (h : LadsV w v ls) (hb : Below w.heap.size w w') : LadsV w' v ls := by
  obtain ⟨ps, e, h1, h2⟩ := h
  exact ⟨ps, e, h1.below hb, fun p hp => (h2 p hp).below hb⟩
theorem Cel.at (W : World) (n : Nat) (t : TypeId) (vs : Array Value) (h : n = W.heap.size) : Cel (W.alloc (.cells vs t)) n t vs := by subst h; exact Cel.new W t vs
end

section
-- Own
open Go Go.RowKit Go.Shelf
set_option maxRecDepth 100000 in
set_option maxHeartbeats 1000000 in
theorem eqInts_any (a b : Value) (xs ys : List Int) (w : World) (ha : Sl w 1 a (xs.map (Value.int .i64))) (hb : Sl w 1 b (ys.map (Value.int .i64))) :
    Calls Tryz.prog 26 #[a, b] w fun e w' => e = .returned (.bool (decide (xs = ys))) ∧ Below w.heap.size w w' := by
  obtain ⟨A, c, rfl, hlc, hcm, hcell⟩ := ha.open1
  obtain ⟨A', c', rfl, hlc', hcm', hcell'⟩ := hb.open1
  simp only [List.length_map] at *
  go_enter Tryz.func26, Tryz.ntmps26
  by_cases hl : xs.length = ys.length
  · have b1 : ((xs.length : Int) == (ys.length : Int)) = true := beq_iff_eq.2 (by omega)
    have HC := Lib.hid hcell
    have HC' := Lib.hid hcell'
    clear hcell hcell'
    go_wp2
    go_loopw [5] (fun t wr => ∃ k : Nat, t = .int .i64 k ∧ k ≤ xs.length ∧ (∀ j (h : j < k) (h1 : j < xs.length) (h2 : j < ys.length), xs[j] = ys[j]) ∧ Below w.heap.size w wr) (fun t _ => xs.length - (intOf t).toNat)
    case atStart => exact ⟨0, rfl, by omega, fun j h => by omega, Below.refl _ _⟩
    case round =>
      obtain ⟨k, rfl, hk, heq, hB⟩ := hrel
      have HE := Lib.hid heq
      clear heq
      by_cases hlt : k < xs.length
      · have hlt' : k < ys.length := by omega
        obtain ⟨ad, rfl, h1⟩ := HC.out k _ (by rw [List.getElem?_map, List.getElem?_eq_getElem hlt]; rfl)
        obtain ⟨ad', rfl, h2⟩ := HC'.out k _ (by rw [List.getElem?_map, List.getElem?_eq_getElem hlt']; rfl)
        have e1 := below_cell hB h1
        have e2 := below_cell hB h2
        clear h1 h2
        obtain ⟨x, hx⟩ : ∃ x, xs[k] = x := ⟨_, rfl⟩
        obtain ⟨y, hy⟩ : ∃ y, ys[k] = y := ⟨_, rfl⟩
        rw [hx] at e1
        rw [hy] at e2
        have HX := Lib.hid hx
        have HY := Lib.hid hy
        clear hx hy
        by_cases hxy : x = y
        · have b2 : (x == y) = true := beq_iff_eq.2 hxy
          have HXY := Lib.hid hxy
          clear hxy
          go_wp2
          go_quiet (fail)
          go_wp2
          go_roundw
          case rel =>
            refine ⟨k + 1, by simp, hlt, fun j hj h3 h4 => ?_, below_drewN hB _⟩
            by_cases e : j = k
            · subst e; rw [HX.out, HY.out, HXY.out]
            · exact HE.out j (by omega) h3 h4
          case measure => simp [intOf]; omega
        · have b2 : (x == y) = false := beq_eq_false_iff_ne.2 hxy
          have HR := Lib.hid (show decide (xs = ys) = false by
            refine decide_eq_false (fun e => hxy ?_)
            subst e
            rw [← HX.out, ← HY.out])
          clear hxy
          go_wp2
          go_quiet (fail)
          go_wp2
          go_ret
          exact ⟨by rw [HR.out]; rfl, below_drewN hB _⟩
      · have HR := Lib.hid (show decide (xs = ys) = true from decide_eq_true (List.ext_getElem hl fun j h1 h2 => HE.out j (by omega) h1 h2))
        go_wp2
        go_ret
        exact ⟨by rw [HR.out]; rfl, hB⟩
  · have b1 : ((xs.length : Int) == (ys.length : Int)) = false := beq_eq_false_iff_ne.2 (by omega)
    have HR := Lib.hid (show decide (xs = ys) = false from decide_eq_false (fun e => hl (by rw [e])))
    go_wp2
    go_ret
    exact ⟨by rw [HR.out]; rfl, Below.refl _ _⟩
end

section
-- Book
open Go Go.RowKit Go.Shelf
def facCells (ps : List (Value × Value)) : List Value := ps.flatMap fun p => [p.1, p.2]
/-- A product in memory that is q. -/
def PV (w : World) (v : Value) (q : Rat) (lim : Nat) : Prop := ∃ U D, Pr w v U D ∧ Red U D q ∧ U.length ≤ lim ∧ D.length ≤ lim
theorem PV.below {w w' : World} {v : Value} {q : Rat} {lim : Nat} (h : PV w v q lim) (hb : Below w.heap.size w w') : PV w' v q lim := by
  obtain ⟨U, D, h1, h2⟩ := h; exact ⟨U, D, h1.below hb, h2⟩
theorem PV.mono {w : World} {v : Value} {q : Rat} {lim lim' : Nat} (h : PV w v q lim) (hl : lim ≤ lim') : PV w v q lim' := by
  obtain ⟨U, D, h1, h2, h3, h4⟩ := h; exact ⟨U, D, h1, h2, by omega, by omega⟩
/-- The products of a book. -/
def FacV (w : World) (v : Value) (fac : List Rat) (lim : Nat → Nat) : Prop :=
  ∃ ps : List (Value × Value), Sl w 2 v (facCells ps) ∧ ps.length = fac.length ∧ ∀ k (h : k < ps.length) (h' : k < fac.length), PV w (.agg #[ps[k].1, ps[k].2]) fac[k] (lim k)
theorem FacV.below {w w' : World} {v : Value} {fac : List Rat} {lim : Nat → Nat} (h : FacV w v fac lim) (hb : Below w.heap.size w w') : FacV w' v fac lim := by
  obtain ⟨ps, h1, h2, h3⟩ := h; exact ⟨ps, h1.below hb, h2, fun k h h' => (h3 k h h').below hb⟩
end

section
-- Book2
open Go Go.RowKit Go.Shelf
theorem PV.drew {w : World} {v : Value} {q : Rat} {lim : Nat} (h : PV w v q lim) : PV w.drew v q lim := by
  obtain ⟨U, D, ⟨s1, s2, e, h1, h2⟩, h3⟩ := h
  exact ⟨U, D, ⟨s1, s2, e, h1.drew, h2.drew⟩, h3⟩
end

section
-- Along
open Go Go.RowKit Go.Shelf
section
variable {a : Act} {w : World} {ops : Array Oper} {rest : List Oper} {o : Oper} {Q : Exit → Act → World → Prop}
end
theorem below_drew {a b : World} {n : Nat} (h : Below n a b) : Below n a b.drew := ⟨h.os, h.tape, h.output, h.size, h.block⟩
theorem Cel.set2 {W : World} {B : Nat} {t : TypeId} {a b : Value} (h : Cel W B t #[a, b]) (x y : Value) : Cel ((W.setCell ⟨B, 0, none⟩ x).setCell ⟨B, 1, none⟩ y) B t #[x, y] := (h.setAt 0 x).setAt 1 y
def namesV (l : List ByteArray) : List Value := l.map Value.string
end

section
-- Convert
open Go Go.RowKit Go.Shelf
attribute [local go_sem] rrV
theorem Pr.drew {w : World} {v : Value} {U D : List Nat} (h : Pr w v U D) : Pr w.drew v U D := by
  obtain ⟨s1, s2, e, h1, h2⟩ := h; exact ⟨s1, s2, e, h1.drew, h2.drew⟩
end

section
-- BookO
open Go Go.RowKit Go.Shelf
/-- A slice whose block is of type t. -/
def SlT (w : World) (t : TypeId) (s : Nat) (v : Value) (xs : List Value) : Prop :=
  Sl w s v xs ∧ ∀ A n c, v = .slice A n c → 0 < n → ∃ b o C, A = some ⟨b, o, none⟩ ∧ w.heap[b]? = some (.cells C t (0, 0))
theorem SlT.of_own {w : World} {base : Nat} {e : TypeId} {size n : Nat} {v : Value} {xs : List Value} (h : w.ownsRow base e size v n xs) : SlT w e size v xs := by
  refine ⟨Sl.of_own h, ?_⟩
  obtain ⟨hl, ⟨rfl, rfl⟩ | ⟨g, cap, cur, rfl, hg, hh, r⟩⟩ := h
  · intro A n c e hn; cases e; omega
  · intro A n c e hn; cases e; exact ⟨g, 0, cur, rfl, hh⟩
theorem SlT.below {w w' : World} {t : TypeId} {s : Nat} {v : Value} {xs : List Value} (h : SlT w t s v xs) (hb : Below w.heap.size w w') : SlT w' t s v xs := by
  refine ⟨h.1.below hb, fun A n c e hn => ?_⟩
  obtain ⟨b, o, C, hA, hh⟩ := h.2 A n c e hn
  exact ⟨b, o, C, hA, (hb.block _ (Array.getElem?_eq_some_iff.1 hh).1).trans hh⟩
end

section
-- RowK
open Go Go.ChangeShapes Go.WideShapes Go.ChangeAt Go.WideMaps Go.WideElems Go.RowKit
theorem own : ownKnob Tryz.prog.godebug = none := by kernel_rfl
end

section
-- Nam1
open Go Go.RowKit Go.Shelf
attribute [local go_sem] Oper.semAt_some
section
variable {ops : Array Oper} {rest : List Oper} {o : Oper} {a : Act} {Q : Exit → Act → World → Prop} {w : World}
end
theorem namesV_length (l : List ByteArray) : (namesV l).length = l.length := by simp [namesV]
end

section
-- Cmp
open Go Go.RowKit Go.Shelf
def cmpI (N D M E : Int) : Int := if N * E < M * D then -1 else if M * D < N * E then 1 else 0
def cmpE (N D M E : Int) : Int := if isR N D && isR M E then 0 else 2
def cmpV (N D M E : Int) : Int := if isR N D && isR M E then cmpI N D M E else 0
theorem mul_in {N E : Int} (h1 : -1099511627776 ≤ N) (h2 : N ≤ 1099511627776) (h3 : 1 ≤ E) (h4 : E ≤ 1048576) : -1152921504606846976 ≤ N * E ∧ N * E ≤ 1152921504606846976 := by
  constructor
  · have a : -1099511627776 * E ≤ N * E := Int.mul_le_mul_of_nonneg_right h1 (by omega)
    omega
  · have a : N * E ≤ 1099511627776 * E := Int.mul_le_mul_of_nonneg_right h2 (by omega)
    omega
end

section
-- Frac1
open Go Go.RowKit Go.Shelf
attribute [local go_sem] Oper.semAt_some
/-- Blocks of other types than uint64 are as they were. -/
def KeptU (w w' : World) : Prop := ∀ b t vs, Cel w b t vs → t ≠ 144 → Cel w' b t vs
theorem KeptU.refl (w : World) : KeptU w w := fun _ _ _ h _ => h
theorem KeptU.below {w w' : World} (h : Below w.heap.size w w') : KeptU w w' := fun _ _ _ hc _ => hc.below hc.lt h
theorem KeptU.trans {a b c : World} (h : KeptU a b) (k : KeptU b c) : KeptU a c := fun x t vs hc ht => k x t vs (h x t vs hc ht) ht
end

section
-- Val3
open Go Go.RowKit Go.Shelf
attribute [local go_sem] Oper.semAt_some
theorem own_ge {w : World} {base : Nat} {e : TypeId} {size n : Nat} {v : Value} {xs : List Value} (h : w.ownsRow base e size v n xs) {g : Nat} (hg : v.ownBlock = some g) : base ≤ g := by
  obtain ⟨hl, ⟨rfl, rfl⟩ | ⟨g', cap, cur, rfl, hb, r⟩⟩ := h
  · simp [Value.ownBlock] at hg
  · simp [Value.ownBlock] at hg; omega
theorem own_alloc {w : World} {base : Nat} {e : TypeId} {size n : Nat} {v : Value} {xs : List Value} (h : w.ownsRow base e size v n xs) {o : Obj} : (w.alloc o).ownsRow base e size v n xs := h.alloc o
theorem own_ne {w : World} {base : Nat} {e : TypeId} {size n : Nat} {v : Value} {xs : List Value} (h : w.ownsRow base e size v n xs) {p : Addr} (hp : v.ownBlock ≠ some p.block) (x : Value) : (w.setCell p x).ownsRow base e size v n xs := by
  obtain ⟨hl, ⟨rfl, rfl⟩ | ⟨g, cap, cur, rfl, hg, hh, r⟩⟩ := h
  · exact ⟨hl, .inl ⟨rfl, rfl⟩⟩
  · refine ⟨hl, .inr ⟨g, cap, cur, rfl, hg, ?_, r⟩⟩
    rw [← hh]
    simp only [World.setCell, Array.getElem?_modify]
    rw [if_neg (fun e => hp (by simp [Value.ownBlock, e]))]
end

section
-- Mul1
open Go Go.RowKit Go.Shelf
def isRs (l : List (Int × Int)) : Prop := ∀ r ∈ l, isR r.1 r.2 = true
def prodQ : List (Int × Int) → Rat
  | [] => 1
  | r :: l => rat r.1 r.2 * prodQ l
def upL (l : List (Int × Int)) : List Nat := l.map fun r => r.1.natAbs
def dnL (l : List (Int × Int)) : List Nat := l.map fun r => r.2.natAbs
def negL : List (Int × Int) → Bool
  | [] => false
  | r :: l => (negL l != decide (r.1 < 0))
theorem negL_snoc (l : List (Int × Int)) (r : Int × Int) : negL (l ++ [r]) = (negL l != decide (r.1 < 0)) := by
  induction l with
  | nil => rfl
  | cons x l ih => simp only [List.cons_append, negL, ih]; cases negL l <;> cases decide (r.1 < 0) <;> cases decide (x.1 < 0) <;> rfl
theorem prodQ_zero {l : List (Int × Int)} {k : Nat} (hk : k < l.length) (h : l[k].1 = 0) : prodQ l = 0 := by
  induction l generalizing k with
  | nil => simp at hk
  | cons x l ih =>
    cases k with
    | zero =>
      simp only [List.getElem_cons_zero] at h
      have e : rat x.1 x.2 = 0 := by unfold rat; rw [h, Rat.div_def]; have : ((0 : Int) : Rat) = 0 := rfl; rw [this]; grind
      simp only [prodQ, e]; grind
    | succ k =>
      simp only [prodQ, ih (by simpa using hk) (by simpa using h)]; grind
theorem onesU {l : List (Int × Int)} (h : isRs l) (hz : ∀ r ∈ l, r.1 ≠ 0) : Ones (upL l) := by
  intro x hx
  obtain ⟨r, hr, rfl⟩ := List.mem_map.1 hx
  have h1 := isR_bd (h r hr)
  have h2 := hz r hr
  omega
theorem onesD {l : List (Int × Int)} (h : isRs l) : Ones (dnL l) := by
  intro x hx
  obtain ⟨r, hr, rfl⟩ := List.mem_map.1 hx
  have h1 := isR_bd (h r hr)
  omega
theorem val_ratio {l : List (Int × Int)} (h : isRs l) (hz : ∀ r ∈ l, r.1 ≠ 0) : sgn (negL l) (val (upL l) (dnL l)) = prodQ l := by
  induction l with
  | nil => simp only [negL, upL, dnL, List.map_nil, prodQ, sgn]; rw [val_nil]; rfl
  | cons r l ih =>
    have h' : isRs l := fun x hx => h x (by simp [hx])
    have hz' : ∀ x ∈ l, x.1 ≠ 0 := fun x hx => hz x (by simp [hx])
    have hr := isR_bd (h r (by simp))
    have hd : ¬ r.2 < 0 := by omega
    have e1 := sgn_ratio r.1 r.2 (by omega)
    have e2 := ih h' hz'
    have e3 : val (upL (r :: l)) (dnL (r :: l)) = val [r.1.natAbs] [r.2.natAbs] * val (upL l) (dnL l) :=
      val_append (U := [r.1.natAbs]) (D := [r.2.natAbs]) (fun x hx => by simp at hx; subst hx; omega) (onesD h')
    rw [decide_eq_false hd] at e1
    simp only [negL, prodQ]
    unfold rat
    rw [← e1, ← e2, e3]
    generalize val [r.1.natAbs] [r.2.natAbs] = a
    generalize val (upL l) (dnL l) = b
    cases negL l <;> cases decide (r.1 < 0) <;> simp [sgn] <;> grind
/-- A list of ratios in memory. -/
def rsV (l : List (Int × Int)) : List Value := l.flatMap fun r => [.int .i64 r.1, .int .i64 r.2]
theorem rsV_get {l : List (Int × Int)} {k : Nat} (hk : k < l.length) : (rsV l)[k * 2]? = some (.int .i64 l[k].1) ∧ (rsV l)[k * 2 + 1]? = some (.int .i64 l[k].2) := by
  induction l generalizing k with
  | nil => simp at hk
  | cons u us ih =>
    have e : rsV (u :: us) = .int .i64 u.1 :: .int .i64 u.2 :: rsV us := rfl
    cases k with
    | zero => rw [e]; simp
    | succ k =>
      have := ih (k := k) (by simpa using hk)
      rw [e, show (k + 1) * 2 = k * 2 + 1 + 1 from by omega]
      simpa using this
theorem own_keep {w w' : World} {base : Nat} {e : TypeId} {size n : Nat} {v : Value} {xs : List Value} {row : Option Nat} (h : w.ownsRow base e size v n xs) (hg : w.grownBy w' row) (hne : ∀ g, v.ownBlock = some g → row ≠ some g) : w'.ownsRow base e size v n xs := by
  obtain ⟨hl, ⟨rfl, rfl⟩ | ⟨g, cap, cur, rfl, hb, hh, r⟩⟩ := h
  · exact ⟨hl, .inl ⟨rfl, rfl⟩⟩
  · refine ⟨hl, .inr ⟨g, cap, cur, rfl, hb, ?_, r⟩⟩
    rw [hg.block g (Array.getElem?_eq_some_iff.1 hh).1 (fun e => hne g (by simp [Value.ownBlock]) e.symm)]
    exact hh
end

section
-- Mul2
open Go Go.RowKit Go.Shelf
attribute [local go_sem] Oper.semAt_some rrV
theorem sizeN (n : Int) (w : World) (h : Bd n) : Calls Tryz.prog 105 #[.int .i64 n] w fun e w' => e = .returned (.int .u64 (n.natAbs : Int)) ∧ w = w' := size_any n w h.1 h.2
theorem own_lt {w : World} {base : Nat} {e : TypeId} {size n : Nat} {v : Value} {xs : List Value} (h : w.ownsRow base e size v n xs) {g : Nat} (hg : v.ownBlock = some g) : g < w.heap.size := by
  obtain ⟨hl, ⟨rfl, rfl⟩ | ⟨g', cap, cur, rfl, hb, hh, r⟩⟩ := h
  · simp [Value.ownBlock] at hg
  · simp only [Value.ownBlock] at hg
    cases hg
    exact (Array.getElem?_eq_some_iff.1 hh).1
end

section
-- Mul3
open Go Go.RowKit Go.Shelf
attribute [local go_sem] rrV
def mulR (N D M E : Int) : RR := fit (rat N D * rat M E)
theorem prodQ2 (N D M E : Int) : prodQ [(N, D), (M, E)] = rat N D * rat M E := by
  simp only [prodQ]; grind
end

section
-- Trn2
open Go Go.RowKit Go.Shelf
set_option maxRecDepth 100000 in
set_option maxHeartbeats 1000000 in
theorem eqTexts_same (a b : Value) (l : List ByteArray) (w : World) (ha : Sl w 1 a (namesV l)) (hb : Sl w 1 b (namesV l)) :
    Calls Tryz.prog 21 #[a, b] w fun e w' => e = .returned (.bool true) ∧ Below w.heap.size w w' := by
  obtain ⟨A, c, rfl, hlc, hcm, hcell⟩ := ha.open1
  obtain ⟨A', c', rfl, hlc', hcm', hcell'⟩ := hb.open1
  simp only [namesV_length] at *
  go_enter Tryz.func21, Tryz.ntmps21
  have HC := Lib.hid hcell
  have HC' := Lib.hid hcell'
  clear hcell hcell'
  go_wp2
  go_loopw [5] (fun t wr => ∃ k : Nat, t = .int .i64 k ∧ k ≤ l.length ∧ Below w.heap.size w wr) (fun t _ => l.length - (intOf t).toNat)
  case atStart => exact ⟨0, rfl, by omega, Below.refl _ _⟩
  case round =>
    obtain ⟨k, rfl, hk, hB⟩ := hrel
    by_cases hlt : k < l.length
    · obtain ⟨ad, rfl, h1⟩ := HC.out k (.string l[k]) (by simp [namesV, hlt])
      obtain ⟨ad', rfl, h2⟩ := HC'.out k (.string l[k]) (by simp [namesV, hlt])
      have e1 := below_cell hB h1
      have e2 := below_cell hB h2
      clear h1 h2
      generalize l[k] = x at *
      have b2 : (x == x) = true := by rw [bytes_beq]; simp
      go_wp2
      go_quiet (fail)
      go_wp2
      go_roundw
      case rel => exact ⟨k + 1, by simp, hlt, below_drewN hB _⟩
      case measure => simp [intOf]; omega
    · go_wp2
      go_ret
      exact ⟨rfl, hB⟩
end
end Go.Proofs.YtdmcopjbckelmaaGreatDoor
