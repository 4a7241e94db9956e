/- The walk of four: its ladders. -/
import Derived.Test.YtmibpncmebhbjaaDoorFou1
import Derived.Test.YtmibpncmebhbjaaDoorVal4
import Derived.Test.YtmibpncmebhbjaaDoorP9
import Derived.Deep.RegionHeld3
namespace Go.Proofs.YtmibpncmebhbjaaDoor
open Go Go.RowKit Go.Shelf
attribute [local go_sem] Oper.semAt_some

section
variable {ops : Array Oper} {rest : List Oper} {o : Oper} {a : Act} {Q : Exit → Act → World → Prop} {w : World} {K : Act → World → Prop} {E : Prop}
theorem appLad (s x : Operand) (hgd : o.guard = none) (ho : o.op = .call { callee := .builtin .append, args := #[s, x], argTypes := #[42, 42] })
    {base n : Nat} {v vx : Value} {xs news : List Value} (hs : a.eval s = v) (hx : a.eval x = vx) (hown : w.ownsRow base 33 2 v n xs) (hr : Sl w 2 vx news) (h1 : ∀ u ∈ news, u.oneCell' = true)
    {N : Nat} (hN : n * 2 + news.length = N * 2) (hb : N ≤ 4398046511) (hbase : base ≤ w.heap.size)
    (h : ∀ A c w', Appended base 33 2 v xs news w w' A N c → wpList Tryd.prog ops Q rest (a.put o.dst (.slice A N c)) w') : wpList Tryd.prog ops Q (o :: rest) a w := by
  obtain ⟨i, hi, hz0, hz1, hz2⟩ := info_parts infoLad
  exact wpList_app w hgd s x 42 ho base 33 i (.agg #[.string ⟨#[]⟩, .slice none 0 0]) 2 40 Tryd.underlying42 hi hz0 hz1 hz2 rfl (by decide) v n xs hs hown vx news hx hr h1 N hN (by omega) (by decide) hbase h
theorem infoBri : (Tryd.prog.info? 83).map (fun i => (i.zero, i.size, i.bytes)) = some (some (.agg #[.string ⟨#[]⟩, .string ⟨#[]⟩, .string ⟨#[]⟩, .string ⟨#[]⟩, .int .i64 0, .int .i64 0]), 6, 80) := by kernel_rfl
theorem stepBri (s x : Operand) (hgd : o.guard = none) (ho : o.op = .call { callee := .builtin .append, args := #[s, x], argTypes := #[43, 43] })
    {base n : Nat} {v vx : Value} {xs news : List Value} (hs : a.eval s = v) (hx : a.eval x = vx) (hown : w.ownsRow base 83 6 v n xs) (hr : Sl w 6 vx news) (h1 : ∀ u ∈ news, u.oneCell' = true)
    {N : Nat} (hN : n * 6 + news.length = N * 6) (hb : N ≤ 1759218604441) (hbase : base ≤ w.heap.size)
    (h : ∀ A c w', Appended base 83 6 v xs news w w' A N c → K (a.put o.dst (.slice A N c)) w') : if Region.wanted o (yielded ops a.tmps) = true then Oper.wp Tryd.prog o a w K Q else E := by
  obtain ⟨i, hi, hz0, hz1, hz2⟩ := info_parts infoBri
  exact step_app w hgd s x 43 ho base 83 i _ 6 80 Tryd.underlying43 hi hz0 hz1 hz2 rfl (by decide) v n xs hs hown vx news hx hr h1 N hN (by omega) (by decide) hbase h
end
/-- The first k of the four ladders, in a row of the call's own. -/
def LO (w : World) (base : Nat) (v : Value) (k : Nat) : Prop :=
  ∃ ps : List (La × Value), ps.map (·.1) = fl.take k ∧ w.ownsRow base 33 2 v k (ladCells ps) ∧ ∀ p ∈ ps, SlT w 78 2 p.2 (unitsV p.1.us)
theorem LO.below {w w' : World} {base k : Nat} {v : Value} (h : LO w base v k) (hb : Below w.heap.size w w') : LO w' base v k := by
  obtain ⟨ps, h1, h2, h3⟩ := h
  exact ⟨ps, h1, own_below h2 hb, fun p hp => (h3 p hp).below hb⟩
theorem LO.nil (w : World) (base : Nat) : LO w base (.slice none 0 0) 0 := ⟨[], rfl, World.ownsRow_nil _ _ _ _, fun _ h => absurd h List.not_mem_nil⟩
theorem LO.add {w w' : World} {base k : Nat} {v : Value} (hk : k < 4) (h : LO w base v k) {u : Value} (hu : SlT w 78 2 u (unitsV (laF k).us)) {A : Option Addr} {c : Nat} {xs : List Value}
    (ha : Appended base 33 2 v xs [.string (nmF k), u] w w' A (k + 1) c) (hx : ∀ ps : List (La × Value), ps.map (·.1) = fl.take k → w.ownsRow base 33 2 v k (ladCells ps) → xs = ladCells ps) : LO w' base (.slice A (k + 1) c) (k + 1) := by
  obtain ⟨ps, h1, h2, h3⟩ := h
  have e := hx ps h1 h2
  subst e
  refine ⟨ps ++ [(laF k, u)], ?_, ?_, fun p hp => ?_⟩
  · have h4 : k < fl.length := hk
    rw [List.map_append, h1, List.take_succ_eq_append_getElem h4, show fl[k]'h4 = laF k from fl_get hk]
    rfl
  · have e2 : ladCells (ps ++ [(laF k, u)]) = ladCells ps ++ [.string (nmF k), u] := by simp [ladCells]; rfl
    rw [e2]; exact ha.own
  · rcases List.mem_append.1 hp with hp | hp
    · exact (h3 p hp).keptT ha.grown (fun g hg => own_typed h2 hg) (by decide)
    · simp at hp; subst hp; exact hu.keptT ha.grown (fun g hg => own_typed h2 hg) (by decide)
theorem LO.cells {w : World} {base k : Nat} {v : Value} (h : LO w base v k) : ∃ xs, w.ownsRow base 33 2 v k xs ∧ ∀ ps : List (La × Value), ps.map (·.1) = fl.take k → w.ownsRow base 33 2 v k (ladCells ps) → xs = ladCells ps := by
  obtain ⟨ps, h1, h2, h3⟩ := h
  refine ⟨ladCells ps, h2, fun qs _ hq => ?_⟩
  obtain ⟨l1, ⟨rfl, rfl⟩ | ⟨g, cap, cur, rfl, _, hh, _, _, _, hc⟩⟩ := h2
  · have l2 := hq.1
    rw [List.eq_nil_of_length_eq_zero (l := ladCells ps) (by simpa using l1), List.eq_nil_of_length_eq_zero (l := ladCells qs) (by simpa using l2)]
  · obtain ⟨l2, ⟨e, _⟩ | ⟨g', cap', cur', e, _, hh', _, _, _, hc'⟩⟩ := hq
    · cases e
    · injection e with e1 e2 e3
      injection e1 with e1
      injection e1 with e1
      subst e1
      rw [hh] at hh'
      injection hh' with hh'
      injection hh' with hh'
      subst hh'
      rw [← hc, ← hc']
theorem own_cells_eq {w : World} {base k : Nat} {e : TypeId} {s : Nat} {v : Value} {xs ys : List Value} (h : w.ownsRow base e s v k xs) (hq : w.ownsRow base e s v k ys) : xs = ys := by
  obtain ⟨l1, ⟨rfl, rfl⟩ | ⟨g, cap, cur, rfl, _, hh, _, _, _, hc⟩⟩ := h
  · have l2 := hq.1
    rw [List.eq_nil_of_length_eq_zero (l := xs) (by simpa using l1), List.eq_nil_of_length_eq_zero (l := ys) (by simpa using l2)]
  · obtain ⟨l2, ⟨e, _⟩ | ⟨g', cap', cur', e, _, hh', _, _, _, hc'⟩⟩ := hq
    · cases e
    · injection e with e1 e2 e3
      injection e1 with e1
      injection e1 with e1
      subst e1
      rw [hh] at hh'
      injection hh' with hh'
      injection hh' with hh'
      subst hh'
      rw [← hc, ← hc']
theorem LO.lads {w : World} {base : Nat} {v : Value} (h : LO w base v 4) : LadsV w v fl := by
  obtain ⟨ps, h1, h2, h3⟩ := h
  exact ⟨ps, h1, Sl.of_own h2, fun p hp => (h3 p hp).1⟩
def nms4 : Array Value := #[.string (nmF 0), .string (nmF 1), .string (nmF 2), .string (nmF 3)]
theorem nms4_get {k : Nat} (h : k < 4) : nms4[k]? = some (.string (nmF k)) := by
  have : k = 0 ∨ k = 1 ∨ k = 2 ∨ k = 3 := by omega
  rcases this with e | e | e | e <;> subst e <;> rfl
/-- The bridge that a link makes, in memory: what the walk reads. -/
theorem LO.at {w : World} {base : Nat} {v : Value} (h : LO w base v 4) : ∃ lb c, v = .slice (some ⟨lb, 0, none⟩) 4 c ∧ ∀ f, f < 4 → ∃ ub uo uc, w.cell? ⟨lb, f * 2 + 1, none⟩ = some (.slice (some ⟨ub, uo, none⟩) 4 uc) ∧ 4 ≤ uc ∧ ∀ s, s < 4 → w.cell? ⟨ub, uo + s * 2, none⟩ = some (.string (sgnB s)) := by
  obtain ⟨ps, h1, h2, h3⟩ := h
  obtain ⟨A, c, rfl, _, _, hg⟩ := own_slice h2
  obtain ⟨lb, rfl, _, _⟩ := hg (by decide)
  have hl : ps.length = 4 := by have := congrArg List.length h1; simpa [fl] using this
  refine ⟨lb, c, rfl, fun f hf => ?_⟩
  have hf' : f < ps.length := by omega
  obtain ⟨g0, g1⟩ := ladCells_get hf'
  have hp : ps[f].1 = laF f := by
    have h4 : (ps.map (·.1))[f]'(by simpa using hf') = fl[f]'hf := by
      have : fl.take 4 = fl := rfl
      simp only [h1, this]
      rfl
    rw [List.getElem_map, fl_get hf] at h4
    exact h4
  obtain ⟨A2, n2, c2, e2, hn2, hc2, _, hcl⟩ := (h3 ps[f] (List.getElem_mem _)).1.open2 (by decide)
  rw [hp, unitsV_length, laF_len] at hn2
  obtain rfl : n2 = 4 := by omega
  obtain ⟨ub, uo, rfl, _, hce⟩ := hcl (by decide)
  refine ⟨ub, uo, c2, ?_, hc2, fun s hs => ?_⟩
  · rw [h2.cellAt (f * 2 + 1) (by omega), g1, e2]
  · have hs' : s < (laF f).us.length := by rw [laF_len]; exact hs
    refine hce (s * 2) _ ?_
    rw [hp, (unitsV_get hs').1, laF_sign f hs]
end Go.Proofs.YtmibpncmebhbjaaDoor
