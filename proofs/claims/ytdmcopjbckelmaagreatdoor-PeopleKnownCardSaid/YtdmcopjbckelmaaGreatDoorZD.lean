/- Appends onto rows of each type of elements. Conditions: those stated. Walks of the package people: Lives. Conditions: those stated. Walks of the package people: May. Conditions: those stated. Walks of the package people: must, Must. Conditions: those stated. Walks of the package people: Must. Conditions: those stated. Sorting and compacting rows of strings of the call's own. Conditions: those stated. Walks of the package people: parents, children. Conditions: those stated. -/
import Derived.Test.YtdmcopjbckelmaaGreatDoorZC
import Derived.OrdersHeld
namespace Go.Proofs.YtdmcopjbckelmaaGreatDoor
section
open Go Go.RowKit Go.Shelf
attribute [local go_sem] Oper.semAt_some

theorem wpAnyH_takeD {P : Program} {md : Region.Mode} {ops : Array Oper} {Q : Exit → Act → World → Prop} {S : World → Prop} {i : Nat} {oi : Oper} {v : Value} {fuel : Nat} {listed : Array Bool} {a : Act} {w : World} (d : Nat) (hi : ops[i]? = some oi)
    (hs : Region.noSelect ops = true) (hf : Region.free md ops listed i = true) (hr : (Region.ready md ops listed).contains i = true)
    (hQ : ∀ c a w, Q (.panic c) (a.put oi.dst v) w → Q (.panic c) a w) (hy : YieldsIf P ops S oi v a) (hS : S w) (hd : oi.dst = some d)
    (h : wpAnyH P md ops Q S fuel (listed.setIfInBounds i true) { tmps := a.tmps.setIfInBounds d v, defers := a.defers } w) : wpAnyH P md ops Q S (fuel + 1) listed a w :=
  wpAnyH_take hi hs hf hr hQ hy hS (by rw [hd]; exact h)
theorem namesV_append (l m : List ByteArray) : namesV (l ++ m) = namesV l ++ namesV m := by simp [namesV]
theorem names_one (l : List ByteArray) : ∀ u ∈ namesV l, u.oneCell' = true := by
  intro u hu
  simp only [namesV, List.mem_map] at hu
  obtain ⟨s, _, rfl⟩ := hu
  rfl
theorem infoStr : (Tryz.prog.info? 9).map (fun i => (i.zero, i.size, i.bytes)) = some (some (.string ⟨#[]⟩), 1, 16) := by kernel_rfl
theorem appStr {ops : Array Oper} {rest : List Oper} {o : Oper} {a : Act} {Q : Exit → Act → World → Prop} {w : World} (s x : Operand) (hgd : o.guard = none) (ho : o.op = .call { callee := .builtin .append, args := #[s, x], argTypes := #[22, 22] })
    {base n : Nat} {v vx : Value} {xs news : List Value} (hs : a.eval s = v) (hx : a.eval x = vx) (hown : w.ownsRow base 9 1 v n xs) (hr : Sl w 1 vx news) (h1 : ∀ u ∈ news, u.oneCell' = true)
    {N : Nat} (hN : n * 1 + news.length = N * 1) (hb : N ≤ 1048576) (hbase : base ≤ w.heap.size)
    (h : ∀ A c w', Appended base 9 1 v xs news w w' A N c → wpList Tryz.prog ops Q rest (a.put o.dst (.slice A N c)) w') : wpList Tryz.prog ops Q (o :: rest) a w := by
  obtain ⟨i, hi, hz0, hz1, hz2⟩ := info_parts infoStr
  exact wpList_app w hgd s x 22 ho base 9 i (.string ⟨#[]⟩) 1 16 Tryz.underlying22 hi hz0 hz1 hz2 rfl (by decide) v n xs hs hown vx news hx hr h1 N hN (by omega) (by decide) hbase h
theorem infoInt : (Tryz.prog.info? 3).map (fun i => (i.zero, i.size, i.bytes)) = some (some (.int .i64 0), 1, 8) := by kernel_rfl
theorem appInt {ops : Array Oper} {rest : List Oper} {o : Oper} {a : Act} {Q : Exit → Act → World → Prop} {w : World} (s x : Operand) (hgd : o.guard = none) (ho : o.op = .call { callee := .builtin .append, args := #[s, x], argTypes := #[47, 47] })
    {base n : Nat} {v vx : Value} {xs news : List Value} (hs : a.eval s = v) (hx : a.eval x = vx) (hown : w.ownsRow base 3 1 v n xs) (hr : Sl w 1 vx news) (h1 : ∀ u ∈ news, u.oneCell' = true)
    {N : Nat} (hN : n * 1 + news.length = N * 1) (hb : N ≤ 1048576) (hbase : base ≤ w.heap.size)
    (h : ∀ A c w', Appended base 3 1 v xs news w w' A N c → wpList Tryz.prog ops Q rest (a.put o.dst (.slice A N c)) w') : wpList Tryz.prog ops Q (o :: rest) a w := by
  obtain ⟨i, hi, hz0, hz1, hz2⟩ := info_parts infoInt
  exact wpList_app w hgd s x 47 ho base 3 i (.int .i64 0) 1 8 Tryz.underlying47 hi hz0 hz1 hz2 rfl (by decide) v n xs hs hown vx news hx hr h1 N hN (by omega) (by decide) hbase h
theorem infoLife : (Tryz.prog.info? 99).map (fun i => (i.zero, i.size, i.bytes)) = some (some (.agg #[.int .i64 0, .int .i64 0, .int .i64 0, .int .i64 0]), 4, 32) := by kernel_rfl
theorem appLife {ops : Array Oper} {rest : List Oper} {o : Oper} {a : Act} {Q : Exit → Act → World → Prop} {w : World} (s x : Operand) (hgd : o.guard = none) (ho : o.op = .call { callee := .builtin .append, args := #[s, x], argTypes := #[79, 79] })
    {base n : Nat} {v vx : Value} {xs news : List Value} (hs : a.eval s = v) (hx : a.eval x = vx) (hown : w.ownsRow base 99 4 v n xs) (hr : Sl w 4 vx news) (h1 : ∀ u ∈ news, u.oneCell' = true)
    {N : Nat} (hN : n * 4 + news.length = N * 4) (hb : N ≤ 1048576) (hbase : base ≤ w.heap.size)
    (h : ∀ A c w', Appended base 99 4 v xs news w w' A N c → wpList Tryz.prog ops Q rest (a.put o.dst (.slice A N c)) w') : wpList Tryz.prog ops Q (o :: rest) a w := by
  obtain ⟨i, hi, hz0, hz1, hz2⟩ := info_parts infoLife
  exact wpList_app w hgd s x 79 ho base 99 i (.agg #[.int .i64 0, .int .i64 0, .int .i64 0, .int .i64 0]) 4 32 Tryz.underlying79 hi hz0 hz1 hz2 rfl (by decide) v n xs hs hown vx news hx hr h1 N hN (by omega) (by decide) hbase h
theorem infoFact : (Tryz.prog.info? 76).map (fun i => (i.zero, i.size, i.bytes)) = some (some (.agg #[.int .i64 0, .string ⟨#[]⟩, .string ⟨#[]⟩, .int .i64 0]), 4, 48) := by kernel_rfl
theorem appFact {ops : Array Oper} {rest : List Oper} {o : Oper} {a : Act} {Q : Exit → Act → World → Prop} {w : World} (s x : Operand) (hgd : o.guard = none) (ho : o.op = .call { callee := .builtin .append, args := #[s, x], argTypes := #[23, 23] })
    {base n : Nat} {v vx : Value} {xs news : List Value} (hs : a.eval s = v) (hx : a.eval x = vx) (hown : w.ownsRow base 76 4 v n xs) (hr : Sl w 4 vx news) (h1 : ∀ u ∈ news, u.oneCell' = true)
    {N : Nat} (hN : n * 4 + news.length = N * 4) (hb : N ≤ 1048576) (hbase : base ≤ w.heap.size)
    (h : ∀ A c w', Appended base 76 4 v xs news w w' A N c → wpList Tryz.prog ops Q rest (a.put o.dst (.slice A N c)) w') : wpList Tryz.prog ops Q (o :: rest) a w := by
  obtain ⟨i, hi, hz0, hz1, hz2⟩ := info_parts infoFact
  exact wpList_app w hgd s x 23 ho base 76 i (.agg #[.int .i64 0, .string ⟨#[]⟩, .string ⟨#[]⟩, .int .i64 0]) 4 48 Tryz.underlying23 hi hz0 hz1 hz2 rfl (by decide) v n xs hs hown vx news hx hr h1 N hN (by omega) (by decide) hbase h
theorem infoShare : (Tryz.prog.info? 34).map (fun i => (i.zero, i.size, i.bytes)) = some (some (.agg #[.string ⟨#[]⟩, .int .i64 0, .int .i64 0]), 3, 32) := by kernel_rfl
theorem appShare {ops : Array Oper} {rest : List Oper} {o : Oper} {a : Act} {Q : Exit → Act → World → Prop} {w : World} (s x : Operand) (hgd : o.guard = none) (ho : o.op = .call { callee := .builtin .append, args := #[s, x], argTypes := #[27, 27] })
    {base n : Nat} {v vx : Value} {xs news : List Value} (hs : a.eval s = v) (hx : a.eval x = vx) (hown : w.ownsRow base 34 3 v n xs) (hr : Sl w 3 vx news) (h1 : ∀ u ∈ news, u.oneCell' = true)
    {N : Nat} (hN : n * 3 + news.length = N * 3) (hb : N ≤ 1048576) (hbase : base ≤ w.heap.size)
    (h : ∀ A c w', Appended base 34 3 v xs news w w' A N c → wpList Tryz.prog ops Q rest (a.put o.dst (.slice A N c)) w') : wpList Tryz.prog ops Q (o :: rest) a w := by
  obtain ⟨i, hi, hz0, hz1, hz2⟩ := info_parts infoShare
  exact wpList_app w hgd s x 27 ho base 34 i (.agg #[.string ⟨#[]⟩, .int .i64 0, .int .i64 0]) 3 32 Tryz.underlying27 hi hz0 hz1 hz2 rfl (by decide) v n xs hs hown vx news hx hr h1 N hN (by omega) (by decide) hbase h
theorem infoDeed : (Tryz.prog.info? 63).map (fun i => (i.zero, i.size, i.bytes)) = some (some (.agg #[.string ⟨#[]⟩, .int .i64 0, .string ⟨#[]⟩, .string ⟨#[]⟩, .slice none 0 0]), 5, 80) := by kernel_rfl
theorem appDeed {ops : Array Oper} {rest : List Oper} {o : Oper} {a : Act} {Q : Exit → Act → World → Prop} {w : World} (s x : Operand) (hgd : o.guard = none) (ho : o.op = .call { callee := .builtin .append, args := #[s, x], argTypes := #[38, 38] })
    {base n : Nat} {v vx : Value} {xs news : List Value} (hs : a.eval s = v) (hx : a.eval x = vx) (hown : w.ownsRow base 63 5 v n xs) (hr : Sl w 5 vx news) (h1 : ∀ u ∈ news, u.oneCell' = true)
    {N : Nat} (hN : n * 5 + news.length = N * 5) (hb : N ≤ 1048576) (hbase : base ≤ w.heap.size)
    (h : ∀ A c w', Appended base 63 5 v xs news w w' A N c → wpList Tryz.prog ops Q rest (a.put o.dst (.slice A N c)) w') : wpList Tryz.prog ops Q (o :: rest) a w := by
  obtain ⟨i, hi, hz0, hz1, hz2⟩ := info_parts infoDeed
  exact wpList_app w hgd s x 38 ho base 63 i (.agg #[.string ⟨#[]⟩, .int .i64 0, .string ⟨#[]⟩, .string ⟨#[]⟩, .slice none 0 0]) 5 80 Tryz.underlying38 hi hz0 hz1 hz2 rfl (by decide) v n xs hs hown vx news hx hr h1 N hN (by omega) (by decide) hbase h
theorem stepStr {ops : Array Oper} {o : Oper} {a : Act} {K : Act → World → Prop} {Q : Exit → Act → World → Prop} {E : Prop} {w : World} (s x : Operand) (hgd : o.guard = none) (ho : o.op = .call { callee := .builtin .append, args := #[s, x], argTypes := #[22, 22] })
    {base n : Nat} {v vx : Value} {xs news : List Value} (hs : a.eval s = v) (hx : a.eval x = vx) (hown : w.ownsRow base 9 1 v n xs) (hr : Sl w 1 vx news) (h1 : ∀ u ∈ news, u.oneCell' = true)
    {N : Nat} (hN : n * 1 + news.length = N * 1) (hb : N ≤ 1048576) (hbase : base ≤ w.heap.size)
    (h : ∀ A c w', Appended base 9 1 v xs news w w' A N c → K (a.put o.dst (.slice A N c)) w') : if Region.wanted o (yielded ops a.tmps) = true then Oper.wp Tryz.prog o a w K Q else E := by
  obtain ⟨i, hi, hz0, hz1, hz2⟩ := info_parts infoStr
  exact step_app w hgd s x 22 ho base 9 i (.string ⟨#[]⟩) 1 16 Tryz.underlying22 hi hz0 hz1 hz2 rfl (by decide) v n xs hs hown vx news hx hr h1 N hN (by omega) (by decide) hbase h
theorem stepInt {ops : Array Oper} {o : Oper} {a : Act} {K : Act → World → Prop} {Q : Exit → Act → World → Prop} {E : Prop} {w : World} (s x : Operand) (hgd : o.guard = none) (ho : o.op = .call { callee := .builtin .append, args := #[s, x], argTypes := #[47, 47] })
    {base n : Nat} {v vx : Value} {xs news : List Value} (hs : a.eval s = v) (hx : a.eval x = vx) (hown : w.ownsRow base 3 1 v n xs) (hr : Sl w 1 vx news) (h1 : ∀ u ∈ news, u.oneCell' = true)
    {N : Nat} (hN : n * 1 + news.length = N * 1) (hb : N ≤ 1048576) (hbase : base ≤ w.heap.size)
    (h : ∀ A c w', Appended base 3 1 v xs news w w' A N c → K (a.put o.dst (.slice A N c)) w') : if Region.wanted o (yielded ops a.tmps) = true then Oper.wp Tryz.prog o a w K Q else E := by
  obtain ⟨i, hi, hz0, hz1, hz2⟩ := info_parts infoInt
  exact step_app w hgd s x 47 ho base 3 i (.int .i64 0) 1 8 Tryz.underlying47 hi hz0 hz1 hz2 rfl (by decide) v n xs hs hown vx news hx hr h1 N hN (by omega) (by decide) hbase h
theorem stepLife {ops : Array Oper} {o : Oper} {a : Act} {K : Act → World → Prop} {Q : Exit → Act → World → Prop} {E : Prop} {w : World} (s x : Operand) (hgd : o.guard = none) (ho : o.op = .call { callee := .builtin .append, args := #[s, x], argTypes := #[79, 79] })
    {base n : Nat} {v vx : Value} {xs news : List Value} (hs : a.eval s = v) (hx : a.eval x = vx) (hown : w.ownsRow base 99 4 v n xs) (hr : Sl w 4 vx news) (h1 : ∀ u ∈ news, u.oneCell' = true)
    {N : Nat} (hN : n * 4 + news.length = N * 4) (hb : N ≤ 1048576) (hbase : base ≤ w.heap.size)
    (h : ∀ A c w', Appended base 99 4 v xs news w w' A N c → K (a.put o.dst (.slice A N c)) w') : if Region.wanted o (yielded ops a.tmps) = true then Oper.wp Tryz.prog o a w K Q else E := by
  obtain ⟨i, hi, hz0, hz1, hz2⟩ := info_parts infoLife
  exact step_app w hgd s x 79 ho base 99 i (.agg #[.int .i64 0, .int .i64 0, .int .i64 0, .int .i64 0]) 4 32 Tryz.underlying79 hi hz0 hz1 hz2 rfl (by decide) v n xs hs hown vx news hx hr h1 N hN (by omega) (by decide) hbase h
theorem stepFact {ops : Array Oper} {o : Oper} {a : Act} {K : Act → World → Prop} {Q : Exit → Act → World → Prop} {E : Prop} {w : World} (s x : Operand) (hgd : o.guard = none) (ho : o.op = .call { callee := .builtin .append, args := #[s, x], argTypes := #[23, 23] })
    {base n : Nat} {v vx : Value} {xs news : List Value} (hs : a.eval s = v) (hx : a.eval x = vx) (hown : w.ownsRow base 76 4 v n xs) (hr : Sl w 4 vx news) (h1 : ∀ u ∈ news, u.oneCell' = true)
    {N : Nat} (hN : n * 4 + news.length = N * 4) (hb : N ≤ 1048576) (hbase : base ≤ w.heap.size)
    (h : ∀ A c w', Appended base 76 4 v xs news w w' A N c → K (a.put o.dst (.slice A N c)) w') : if Region.wanted o (yielded ops a.tmps) = true then Oper.wp Tryz.prog o a w K Q else E := by
  obtain ⟨i, hi, hz0, hz1, hz2⟩ := info_parts infoFact
  exact step_app w hgd s x 23 ho base 76 i (.agg #[.int .i64 0, .string ⟨#[]⟩, .string ⟨#[]⟩, .int .i64 0]) 4 48 Tryz.underlying23 hi hz0 hz1 hz2 rfl (by decide) v n xs hs hown vx news hx hr h1 N hN (by omega) (by decide) hbase h
theorem stepShare {ops : Array Oper} {o : Oper} {a : Act} {K : Act → World → Prop} {Q : Exit → Act → World → Prop} {E : Prop} {w : World} (s x : Operand) (hgd : o.guard = none) (ho : o.op = .call { callee := .builtin .append, args := #[s, x], argTypes := #[27, 27] })
    {base n : Nat} {v vx : Value} {xs news : List Value} (hs : a.eval s = v) (hx : a.eval x = vx) (hown : w.ownsRow base 34 3 v n xs) (hr : Sl w 3 vx news) (h1 : ∀ u ∈ news, u.oneCell' = true)
    {N : Nat} (hN : n * 3 + news.length = N * 3) (hb : N ≤ 1048576) (hbase : base ≤ w.heap.size)
    (h : ∀ A c w', Appended base 34 3 v xs news w w' A N c → K (a.put o.dst (.slice A N c)) w') : if Region.wanted o (yielded ops a.tmps) = true then Oper.wp Tryz.prog o a w K Q else E := by
  obtain ⟨i, hi, hz0, hz1, hz2⟩ := info_parts infoShare
  exact step_app w hgd s x 27 ho base 34 i (.agg #[.string ⟨#[]⟩, .int .i64 0, .int .i64 0]) 3 32 Tryz.underlying27 hi hz0 hz1 hz2 rfl (by decide) v n xs hs hown vx news hx hr h1 N hN (by omega) (by decide) hbase h
theorem stepDeed {ops : Array Oper} {o : Oper} {a : Act} {K : Act → World → Prop} {Q : Exit → Act → World → Prop} {E : Prop} {w : World} (s x : Operand) (hgd : o.guard = none) (ho : o.op = .call { callee := .builtin .append, args := #[s, x], argTypes := #[38, 38] })
    {base n : Nat} {v vx : Value} {xs news : List Value} (hs : a.eval s = v) (hx : a.eval x = vx) (hown : w.ownsRow base 63 5 v n xs) (hr : Sl w 5 vx news) (h1 : ∀ u ∈ news, u.oneCell' = true)
    {N : Nat} (hN : n * 5 + news.length = N * 5) (hb : N ≤ 1048576) (hbase : base ≤ w.heap.size)
    (h : ∀ A c w', Appended base 63 5 v xs news w w' A N c → K (a.put o.dst (.slice A N c)) w') : if Region.wanted o (yielded ops a.tmps) = true then Oper.wp Tryz.prog o a w K Q else E := by
  obtain ⟨i, hi, hz0, hz1, hz2⟩ := info_parts infoDeed
  exact step_app w hgd s x 38 ho base 63 i (.agg #[.string ⟨#[]⟩, .int .i64 0, .string ⟨#[]⟩, .string ⟨#[]⟩, .slice none 0 0]) 5 80 Tryz.underlying38 hi hz0 hz1 hz2 rfl (by decide) v n xs hs hown vx news hx hr h1 N hN (by omega) (by decide) hbase h
end

section
open Go Go.RowKit Go.Shelf
attribute [local go_sem] Oper.semAt_some

def lifeV (D : Mat) (i : Nat) : List Value := [.int .i64 (-(D 48 (2 * i))), .int .i64 (D (2 * i) 48), .int .i64 (-(D 48 (2 * i + 1))), .int .i64 (D (2 * i + 1) 48)]
def livesV (D : Mat) (n : Nat) : List Value := (List.range n).flatMap (lifeV D)
theorem livesV_succ (D : Mat) (n : Nat) : livesV D (n + 1) = livesV D n ++ lifeV D n := by
  unfold livesV
  rw [List.range_succ, List.flatMap_append]
  simp
theorem livesV_length (D : Mat) (n : Nat) : (livesV D n).length = n * 4 := by
  induction n with
  | zero => rfl
  | succ n ih => rw [livesV_succ, List.length_append, ih]; simp [lifeV]; omega
def livE (ps : List ByteArray) (fs : List Fa) : Int := if checkF ps fs ≠ 0 then checkF ps fs else if (solveF ps fs).isSome then 0 else 101
def livL (ps : List ByteArray) (fs : List Fa) : List Value := if checkF ps fs ≠ 0 then [] else match solveF ps fs with | some D => livesV D ps.length | none => []
def LivP (r : Int) (l : List Value) (w : World) (e : Ending) (w' : World) : Prop := Below w.heap.size w w' ∧ ∃ v, e = .returned (.tuple #[v, .int .i64 r]) ∧ Sl w' 4 v l
set_option maxHeartbeats 1000000 in
theorem lives_bad (r : Int) (hr : r = 3 ∨ r = 100) (A : Option Addr) (n c : Nat) (F : Option Addr) (m d : Nat) (ps : List ByteArray) (fs : List Fa) (w : World) (h : NetC w A n c F m d ps fs) (hs : Short ps) (hc : checkF ps fs = r) :
    Calls Tryz.prog 55 #[.agg #[.slice A n c, .slice F m d]] w (LivP r [] w) := by
  have hb0 := below_alloc' w (.cells #[.slice A n c, .slice F m d] 25)
  have HK := Lib.hid (check_is hc _ (h.below hb0) hs)
  clear h hs hc
  rcases hr with rfl | rfl
  all_goals
    go_enter Tryz.func55, Tryz.ntmps55
    go_wp2_with fail
    refine HK.out.mono ?_
    rintro e w1 ⟨rfl, hb1⟩
    have HB := Lib.hid (hb0.trans (hb1.mono hb0.size))
    clear hb0 hb1
    go_wp2
    go_ret2
    exact ⟨HB.out, _, rfl, Sl.nil0 _ _⟩
set_option maxRecDepth 100000 in
set_option maxHeartbeats 400000 in
theorem lives_good (A : Option Addr) (n c : Nat) (F : Option Addr) (m d : Nat) (ps : List ByteArray) (fs : List Fa) (w : World) (h : NetC w A n c F m d ps fs) (hs : Short ps) (hc : checkF ps fs = 0) (hp : ps.length ≤ 24) (hf : AllAbout ps fs) :
    Calls Tryz.prog 55 #[.agg #[.slice A n c, .slice F m d]] w (LivP (livE ps fs) (livL ps fs) w) := by
  have hb0 := below_alloc' w (.cells #[.slice A n c, .slice F m d] 25)
  have y0 := Cel.new w 25 #[.slice A n c, .slice F m d]
  have HK := Lib.hid (check_is hc _ (h.below hb0) hs)
  have HN := Lib.hid h
  have HS := Lib.hid (fun w' h' => solve_any A n c F m d ps fs w' h' hp hf)
  have HG := Lib.hid (fun D e => solveF_good (D := D) hp hf e)
  have HE := Lib.hid (show livE ps fs = if (solveF ps fs).isSome then 0 else 101 by unfold livE; rw [hc, if_neg (fun q => q rfl)])
  have HLv := Lib.hid (show livL ps fs = match solveF ps fs with | some D => livesV D ps.length | none => [] by unfold livL; rw [hc, if_neg (fun q => q rfl)])
  obtain ⟨e1, e2, _⟩ := h.many
  subst e1
  subst e2
  clear h hs hc hf
  go_enter Tryz.func55, Tryz.ntmps55
  go_wp2_with fail
  refine HK.out.mono ?_
  rintro e w1 ⟨rfl, hb1⟩
  have HB := Lib.hid (hb0.trans (hb1.mono hb0.size))
  have y1 := y0.below y0.lt hb1
  have z0 := y1.cell 0 _ rfl
  have z1 := y1.cell 1 _ rfl
  have HY := Lib.hid y1
  clear hb0 hb1 y0 y1
  go_wp2_with fail
  refine (HS.out w1 (HN.out.below HB.out)).mono ?_
  rintro e w2 ⟨hb2, h2⟩
  have HB2 := Lib.hid (HB.out.trans (hb2.mono HB.out.size))
  have HY2 := Lib.hid (HY.out.below HY.out.lt hb2)
  have HS2 := Lib.hid hb2.size
  have HS1 := Lib.hid HY.out.lt
  clear hb2 z0 z1 HS HY HK
  rcases h2 with ⟨hq, rfl⟩ | ⟨D, B, vs, hq, rfl, hB, hV, hC⟩
  · have HQ := Lib.hid hq
    clear hq
    go_wp2
    go_ret2
    exact ⟨HB2.out, _, by rw [HE.out, HQ.out]; rfl, by rw [HLv.out, HQ.out]; exact Sl.nil0 _ _⟩
  · have HQ := Lib.hid hq
    have HV := Lib.hid hV
    have HC := Lib.hid hC
    have HGd := Lib.hid (HG.out D hq)
    have z0 := HY2.out.cell 0 _ rfl
    have HBB := Lib.hid (show w.heap.size < B by have := HS1.out; omega)
    clear hq hV hC hB
    go_wp2
    clear z0
    go_loopw [7, 26] (fun v ti wr => ∃ k : Nat, ti = .int .i64 k ∧ k ≤ ps.length ∧ Hid (wr.ownsRow w2.heap.size 99 4 v k (livesV D k)) ∧ Hid (Below w2.heap.size w2 wr)) (fun _ ti _ => ps.length - (intOf ti).toNat)
    case atStart => exact ⟨0, rfl, by omega, World.ownsRow_nil _ _ _ _, Below.refl _ _⟩
    case round =>
      obtain ⟨k, rfl, hk, HO, HW⟩ := hrel
      by_cases hlt : k < ps.length
      · have hki : (k : Int) < (ps.length : Int) := by omega
        obtain ⟨A7, c7, e7, _⟩ := own_shape HO.out
        subst e7
        obtain ⟨e0, hK⟩ : ∃ e0 : Nat, e0 = 2 * k := ⟨_, rfl⟩
        obtain ⟨e1, hK1⟩ : ∃ e1 : Nat, e1 = e0 + 1 := ⟨_, rfl⟩
        have HLs := Lib.hid (show livesV D (k + 1) = livesV D k ++ [.int .i64 (-(D 48 e0)), .int .i64 (D e0 48), .int .i64 (-(D 48 e1)), .int .i64 (D e1 48)] by rw [livesV_succ, hK1, hK]; rfl)
        have hK2 : 2 * (k : Int) = (e0 : Int) := by omega
        have hK3 : (e0 : Int) + 1 = (e1 : Int) := by omega
        have hq1 : e0 < 49 := by omega
        have hq2 : e1 < 49 := by omega
        have hq3 : (e0 : Int) < 49 := by omega
        have hq4 : (e1 : Int) < 49 := by omega
        have cv := HC.out.below (show B < w2.heap.size from HC.out.lt) HW.out
        have HCV := Lib.hid cv
        have HKK := Lib.hid hK
        have b1 := HGd.out.bd (show 48 < 49 by omega) hq1
        have b3 := HGd.out.bd (show 48 < 49 by omega) hq2
        have n1 : IntKind.i64.wrap (-(D 48 e0)) = -(D 48 e0) := IntWalk.i64_in _ (by omega)
        have n3 : IntKind.i64.wrap (-(D 48 e1)) = -(D 48 e1) := IntWalk.i64_in _ (by omega)
        clear hK hK1 cv b1 b3
        go_upto_region 12 with fail
        refine wp_region_held_drew (S := fun w' => Cel w' B 134 vs) (by kernel_rfl) (HCV.out.below HCV.out.lt (below_drew (Below.refl _ _))) (fun hHeld => ?_)
        have HO2 := Lib.hid (show wr.drew.ownsRow w2.heap.size 99 4 (.slice A7 k c7) k (livesV D k) from HO.out)
        have HW2 := Lib.hid (show Below w2.heap.size w2 wr.drew from below_drew HW.out)
        generalize wr.drew = U at *
        refine wpAnyH_takeD (i := 0) (v := ?_) 34 rfl (by kernel_rfl) (by kernel_rfl) (by kernel_rfl) (fun _ _ _ h => h) (Or.inl ⟨by rfl, ?_⟩) (by assumption) rfl ?_
        rotate_left
        · intro w' hSw
          have g1 := (show Cel w' B 134 vs from hSw).cell _ _ (HV.out.2.2 48 e0 (by omega) hq1); have g2 := (show Cel w' B 134 vs from hSw).cell _ _ (HV.out.2.2 e0 48 hq1 (by omega)); have g3 := (show Cel w' B 134 vs from hSw).cell _ _ (HV.out.2.2 48 e1 (by omega) hq2); have g4 := (show Cel w' B 134 vs from hSw).cell _ _ (HV.out.2.2 e1 48 hq2 (by omega)); rw [show 1 + 48 * 49 + e0 = 2353 + e0 by omega] at g1; rw [show 1 + 48 * 49 + e1 = 2353 + e1 by omega] at g3
          go_simp <;> with_reducible rfl
        simp only [List.setIfInBounds_toArray, List.set_cons_succ, List.set_cons_zero]
        refine wpAnyH_takeD (i := 1) (v := ?_) 35 rfl (by kernel_rfl) (by kernel_rfl) (by kernel_rfl) (fun _ _ _ h => h) (Or.inl ⟨by rfl, ?_⟩) (by assumption) rfl ?_
        rotate_left
        · intro w' hSw
          have g1 := (show Cel w' B 134 vs from hSw).cell _ _ (HV.out.2.2 48 e0 (by omega) hq1); have g2 := (show Cel w' B 134 vs from hSw).cell _ _ (HV.out.2.2 e0 48 hq1 (by omega)); have g3 := (show Cel w' B 134 vs from hSw).cell _ _ (HV.out.2.2 48 e1 (by omega) hq2); have g4 := (show Cel w' B 134 vs from hSw).cell _ _ (HV.out.2.2 e1 48 hq2 (by omega)); rw [show 1 + 48 * 49 + e0 = 2353 + e0 by omega] at g1; rw [show 1 + 48 * 49 + e1 = 2353 + e1 by omega] at g3
          go_simp <;> with_reducible rfl
        simp only [List.setIfInBounds_toArray, List.set_cons_succ, List.set_cons_zero]
        refine wpAnyH_takeD (i := 2) (v := ?_) 36 rfl (by kernel_rfl) (by kernel_rfl) (by kernel_rfl) (fun _ _ _ h => h) (Or.inl ⟨by rfl, ?_⟩) (by assumption) rfl ?_
        rotate_left
        · intro w' hSw
          have g1 := (show Cel w' B 134 vs from hSw).cell _ _ (HV.out.2.2 48 e0 (by omega) hq1); have g2 := (show Cel w' B 134 vs from hSw).cell _ _ (HV.out.2.2 e0 48 hq1 (by omega)); have g3 := (show Cel w' B 134 vs from hSw).cell _ _ (HV.out.2.2 48 e1 (by omega) hq2); have g4 := (show Cel w' B 134 vs from hSw).cell _ _ (HV.out.2.2 e1 48 hq2 (by omega)); rw [show 1 + 48 * 49 + e0 = 2353 + e0 by omega] at g1; rw [show 1 + 48 * 49 + e1 = 2353 + e1 by omega] at g3
          go_simp <;> with_reducible rfl
        simp only [List.setIfInBounds_toArray, List.set_cons_succ, List.set_cons_zero]
        refine wpAnyH_takeD (i := 3) (v := ?_) 37 rfl (by kernel_rfl) (by kernel_rfl) (by kernel_rfl) (fun _ _ _ h => h) (Or.inl ⟨by rfl, ?_⟩) (by assumption) rfl ?_
        rotate_left
        · intro w' hSw
          have g1 := (show Cel w' B 134 vs from hSw).cell _ _ (HV.out.2.2 48 e0 (by omega) hq1); have g2 := (show Cel w' B 134 vs from hSw).cell _ _ (HV.out.2.2 e0 48 hq1 (by omega)); have g3 := (show Cel w' B 134 vs from hSw).cell _ _ (HV.out.2.2 48 e1 (by omega) hq2); have g4 := (show Cel w' B 134 vs from hSw).cell _ _ (HV.out.2.2 e1 48 hq2 (by omega)); rw [show 1 + 48 * 49 + e0 = 2353 + e0 by omega] at g1; rw [show 1 + 48 * 49 + e1 = 2353 + e1 by omega] at g3
          go_simp <;> with_reducible rfl
        simp only [List.setIfInBounds_toArray, List.set_cons_succ, List.set_cons_zero]
        refine wpAnyH_takeD (i := 4) (v := ?_) 38 rfl (by kernel_rfl) (by kernel_rfl) (by kernel_rfl) (fun _ _ _ h => h) (Or.inl ⟨by rfl, ?_⟩) (by assumption) rfl ?_
        rotate_left
        · intro w' hSw
          have g1 := (show Cel w' B 134 vs from hSw).cell _ _ (HV.out.2.2 48 e0 (by omega) hq1); have g2 := (show Cel w' B 134 vs from hSw).cell _ _ (HV.out.2.2 e0 48 hq1 (by omega)); have g3 := (show Cel w' B 134 vs from hSw).cell _ _ (HV.out.2.2 48 e1 (by omega) hq2); have g4 := (show Cel w' B 134 vs from hSw).cell _ _ (HV.out.2.2 e1 48 hq2 (by omega)); rw [show 1 + 48 * 49 + e0 = 2353 + e0 by omega] at g1; rw [show 1 + 48 * 49 + e1 = 2353 + e1 by omega] at g3
          go_simp <;> with_reducible rfl
        simp only [List.setIfInBounds_toArray, List.set_cons_succ, List.set_cons_zero]
        refine wpAnyH_takeD (i := 5) (v := ?_) 39 rfl (by kernel_rfl) (by kernel_rfl) (by kernel_rfl) (fun _ _ _ h => h) (Or.inl ⟨by rfl, ?_⟩) (by assumption) rfl ?_
        rotate_left
        · intro w' hSw
          have g1 := (show Cel w' B 134 vs from hSw).cell _ _ (HV.out.2.2 48 e0 (by omega) hq1); have g2 := (show Cel w' B 134 vs from hSw).cell _ _ (HV.out.2.2 e0 48 hq1 (by omega)); have g3 := (show Cel w' B 134 vs from hSw).cell _ _ (HV.out.2.2 48 e1 (by omega) hq2); have g4 := (show Cel w' B 134 vs from hSw).cell _ _ (HV.out.2.2 e1 48 hq2 (by omega)); rw [show 1 + 48 * 49 + e0 = 2353 + e0 by omega] at g1; rw [show 1 + 48 * 49 + e1 = 2353 + e1 by omega] at g3
          go_simp <;> with_reducible rfl
        simp only [List.setIfInBounds_toArray, List.set_cons_succ, List.set_cons_zero]
        refine wpAnyH_takeD (i := 6) (v := ?_) 40 rfl (by kernel_rfl) (by kernel_rfl) (by kernel_rfl) (fun _ _ _ h => h) (Or.inl ⟨by rfl, ?_⟩) (by assumption) rfl ?_
        rotate_left
        · intro w' hSw
          have g1 := (show Cel w' B 134 vs from hSw).cell _ _ (HV.out.2.2 48 e0 (by omega) hq1); have g2 := (show Cel w' B 134 vs from hSw).cell _ _ (HV.out.2.2 e0 48 hq1 (by omega)); have g3 := (show Cel w' B 134 vs from hSw).cell _ _ (HV.out.2.2 48 e1 (by omega) hq2); have g4 := (show Cel w' B 134 vs from hSw).cell _ _ (HV.out.2.2 e1 48 hq2 (by omega)); rw [show 1 + 48 * 49 + e0 = 2353 + e0 by omega] at g1; rw [show 1 + 48 * 49 + e1 = 2353 + e1 by omega] at g3
          go_simp <;> with_reducible rfl
        simp only [List.setIfInBounds_toArray, List.set_cons_succ, List.set_cons_zero]
        refine wpAnyH_takeD (i := 7) (v := ?_) 41 rfl (by kernel_rfl) (by kernel_rfl) (by kernel_rfl) (fun _ _ _ h => h) (Or.inl ⟨by rfl, ?_⟩) (by assumption) rfl ?_
        rotate_left
        · intro w' hSw
          have g1 := (show Cel w' B 134 vs from hSw).cell _ _ (HV.out.2.2 48 e0 (by omega) hq1); have g2 := (show Cel w' B 134 vs from hSw).cell _ _ (HV.out.2.2 e0 48 hq1 (by omega)); have g3 := (show Cel w' B 134 vs from hSw).cell _ _ (HV.out.2.2 48 e1 (by omega) hq2); have g4 := (show Cel w' B 134 vs from hSw).cell _ _ (HV.out.2.2 e1 48 hq2 (by omega)); rw [show 1 + 48 * 49 + e0 = 2353 + e0 by omega] at g1; rw [show 1 + 48 * 49 + e1 = 2353 + e1 by omega] at g3
          go_simp <;> with_reducible rfl
        simp only [List.setIfInBounds_toArray, List.set_cons_succ, List.set_cons_zero]
        refine wpAnyH_takeD (i := 8) (v := ?_) 42 rfl (by kernel_rfl) (by kernel_rfl) (by kernel_rfl) (fun _ _ _ h => h) (Or.inl ⟨by rfl, ?_⟩) (by assumption) rfl ?_
        rotate_left
        · intro w' hSw
          have g1 := (show Cel w' B 134 vs from hSw).cell _ _ (HV.out.2.2 48 e0 (by omega) hq1); have g2 := (show Cel w' B 134 vs from hSw).cell _ _ (HV.out.2.2 e0 48 hq1 (by omega)); have g3 := (show Cel w' B 134 vs from hSw).cell _ _ (HV.out.2.2 48 e1 (by omega) hq2); have g4 := (show Cel w' B 134 vs from hSw).cell _ _ (HV.out.2.2 e1 48 hq2 (by omega)); rw [show 1 + 48 * 49 + e0 = 2353 + e0 by omega] at g1; rw [show 1 + 48 * 49 + e1 = 2353 + e1 by omega] at g3
          go_simp <;> with_reducible rfl
        simp only [List.setIfInBounds_toArray, List.set_cons_succ, List.set_cons_zero]
        refine wpAnyH_takeD (i := 9) (v := ?_) 43 rfl (by kernel_rfl) (by kernel_rfl) (by kernel_rfl) (fun _ _ _ h => h) (Or.inl ⟨by rfl, ?_⟩) (by assumption) rfl ?_
        rotate_left
        · intro w' hSw
          have g1 := (show Cel w' B 134 vs from hSw).cell _ _ (HV.out.2.2 48 e0 (by omega) hq1); have g2 := (show Cel w' B 134 vs from hSw).cell _ _ (HV.out.2.2 e0 48 hq1 (by omega)); have g3 := (show Cel w' B 134 vs from hSw).cell _ _ (HV.out.2.2 48 e1 (by omega) hq2); have g4 := (show Cel w' B 134 vs from hSw).cell _ _ (HV.out.2.2 e1 48 hq2 (by omega)); rw [show 1 + 48 * 49 + e0 = 2353 + e0 by omega] at g1; rw [show 1 + 48 * 49 + e1 = 2353 + e1 by omega] at g3
          go_simp <;> with_reducible rfl
        simp only [List.setIfInBounds_toArray, List.set_cons_succ, List.set_cons_zero]
        refine wpAnyH_takeD (i := 10) (v := ?_) 44 rfl (by kernel_rfl) (by kernel_rfl) (by kernel_rfl) (fun _ _ _ h => h) (Or.inl ⟨by rfl, ?_⟩) (by assumption) rfl ?_
        rotate_left
        · intro w' hSw
          have g1 := (show Cel w' B 134 vs from hSw).cell _ _ (HV.out.2.2 48 e0 (by omega) hq1); have g2 := (show Cel w' B 134 vs from hSw).cell _ _ (HV.out.2.2 e0 48 hq1 (by omega)); have g3 := (show Cel w' B 134 vs from hSw).cell _ _ (HV.out.2.2 48 e1 (by omega) hq2); have g4 := (show Cel w' B 134 vs from hSw).cell _ _ (HV.out.2.2 e1 48 hq2 (by omega)); rw [show 1 + 48 * 49 + e0 = 2353 + e0 by omega] at g1; rw [show 1 + 48 * 49 + e1 = 2353 + e1 by omega] at g3
          go_simp <;> with_reducible rfl
        simp only [List.setIfInBounds_toArray, List.set_cons_succ, List.set_cons_zero]
        refine wpAnyH_takeD (i := 11) (v := ?_) 45 rfl (by kernel_rfl) (by kernel_rfl) (by kernel_rfl) (fun _ _ _ h => h) (Or.inl ⟨by rfl, ?_⟩) (by assumption) rfl ?_
        rotate_left
        · intro w' hSw
          have g1 := (show Cel w' B 134 vs from hSw).cell _ _ (HV.out.2.2 48 e0 (by omega) hq1); have g2 := (show Cel w' B 134 vs from hSw).cell _ _ (HV.out.2.2 e0 48 hq1 (by omega)); have g3 := (show Cel w' B 134 vs from hSw).cell _ _ (HV.out.2.2 48 e1 (by omega) hq2); have g4 := (show Cel w' B 134 vs from hSw).cell _ _ (HV.out.2.2 e1 48 hq2 (by omega)); rw [show 1 + 48 * 49 + e0 = 2353 + e0 by omega] at g1; rw [show 1 + 48 * 49 + e1 = 2353 + e1 by omega] at g3
          go_simp <;> with_reducible rfl
        simp only [List.setIfInBounds_toArray, List.set_cons_succ, List.set_cons_zero]
        refine wpAnyH_takeD (i := 12) (v := ?_) 46 rfl (by kernel_rfl) (by kernel_rfl) (by kernel_rfl) (fun _ _ _ h => h) (Or.inl ⟨by rfl, ?_⟩) (by assumption) rfl ?_
        rotate_left
        · intro w' hSw
          have g1 := (show Cel w' B 134 vs from hSw).cell _ _ (HV.out.2.2 48 e0 (by omega) hq1); have g2 := (show Cel w' B 134 vs from hSw).cell _ _ (HV.out.2.2 e0 48 hq1 (by omega)); have g3 := (show Cel w' B 134 vs from hSw).cell _ _ (HV.out.2.2 48 e1 (by omega) hq2); have g4 := (show Cel w' B 134 vs from hSw).cell _ _ (HV.out.2.2 e1 48 hq2 (by omega)); rw [show 1 + 48 * 49 + e0 = 2353 + e0 by omega] at g1; rw [show 1 + 48 * 49 + e1 = 2353 + e1 by omega] at g3
          go_simp <;> with_reducible rfl
        simp only [List.setIfInBounds_toArray, List.set_cons_succ, List.set_cons_zero]
        refine wpAnyH_takeD (i := 13) (v := ?_) 47 rfl (by kernel_rfl) (by kernel_rfl) (by kernel_rfl) (fun _ _ _ h => h) (Or.inl ⟨by rfl, ?_⟩) (by assumption) rfl ?_
        rotate_left
        · intro w' hSw
          have g1 := (show Cel w' B 134 vs from hSw).cell _ _ (HV.out.2.2 48 e0 (by omega) hq1); have g2 := (show Cel w' B 134 vs from hSw).cell _ _ (HV.out.2.2 e0 48 hq1 (by omega)); have g3 := (show Cel w' B 134 vs from hSw).cell _ _ (HV.out.2.2 48 e1 (by omega) hq2); have g4 := (show Cel w' B 134 vs from hSw).cell _ _ (HV.out.2.2 e1 48 hq2 (by omega)); rw [show 1 + 48 * 49 + e0 = 2353 + e0 by omega] at g1; rw [show 1 + 48 * 49 + e1 = 2353 + e1 by omega] at g3
          go_simp <;> with_reducible rfl
        simp only [List.setIfInBounds_toArray, List.set_cons_succ, List.set_cons_zero]
        refine wpAnyH_takeD (i := 14) (v := ?_) 48 rfl (by kernel_rfl) (by kernel_rfl) (by kernel_rfl) (fun _ _ _ h => h) (Or.inl ⟨by rfl, ?_⟩) (by assumption) rfl ?_
        rotate_left
        · intro w' hSw
          have g1 := (show Cel w' B 134 vs from hSw).cell _ _ (HV.out.2.2 48 e0 (by omega) hq1); have g2 := (show Cel w' B 134 vs from hSw).cell _ _ (HV.out.2.2 e0 48 hq1 (by omega)); have g3 := (show Cel w' B 134 vs from hSw).cell _ _ (HV.out.2.2 48 e1 (by omega) hq2); have g4 := (show Cel w' B 134 vs from hSw).cell _ _ (HV.out.2.2 e1 48 hq2 (by omega)); rw [show 1 + 48 * 49 + e0 = 2353 + e0 by omega] at g1; rw [show 1 + 48 * 49 + e1 = 2353 + e1 by omega] at g3
          go_simp <;> with_reducible rfl
        simp only [List.setIfInBounds_toArray, List.set_cons_succ, List.set_cons_zero]
        refine wpAnyH_takeD (i := 15) (v := ?_) 49 rfl (by kernel_rfl) (by kernel_rfl) (by kernel_rfl) (fun _ _ _ h => h) (Or.inl ⟨by rfl, ?_⟩) (by assumption) rfl ?_
        rotate_left
        · intro w' hSw
          have g1 := (show Cel w' B 134 vs from hSw).cell _ _ (HV.out.2.2 48 e0 (by omega) hq1); have g2 := (show Cel w' B 134 vs from hSw).cell _ _ (HV.out.2.2 e0 48 hq1 (by omega)); have g3 := (show Cel w' B 134 vs from hSw).cell _ _ (HV.out.2.2 48 e1 (by omega) hq2); have g4 := (show Cel w' B 134 vs from hSw).cell _ _ (HV.out.2.2 e1 48 hq2 (by omega)); rw [show 1 + 48 * 49 + e0 = 2353 + e0 by omega] at g1; rw [show 1 + 48 * 49 + e1 = 2353 + e1 by omega] at g3
          go_simp <;> with_reducible rfl
        simp only [List.setIfInBounds_toArray, List.set_cons_succ, List.set_cons_zero]
        refine wpAnyH_takeD (i := 16) (v := ?_) 50 rfl (by kernel_rfl) (by kernel_rfl) (by kernel_rfl) (fun _ _ _ h => h) (Or.inl ⟨by rfl, ?_⟩) (by assumption) rfl ?_
        rotate_left
        · intro w' hSw
          have g1 := (show Cel w' B 134 vs from hSw).cell _ _ (HV.out.2.2 48 e0 (by omega) hq1); have g2 := (show Cel w' B 134 vs from hSw).cell _ _ (HV.out.2.2 e0 48 hq1 (by omega)); have g3 := (show Cel w' B 134 vs from hSw).cell _ _ (HV.out.2.2 48 e1 (by omega) hq2); have g4 := (show Cel w' B 134 vs from hSw).cell _ _ (HV.out.2.2 e1 48 hq2 (by omega)); rw [show 1 + 48 * 49 + e0 = 2353 + e0 by omega] at g1; rw [show 1 + 48 * 49 + e1 = 2353 + e1 by omega] at g3
          go_simp <;> with_reducible rfl
        simp only [List.setIfInBounds_toArray, List.set_cons_succ, List.set_cons_zero]
        refine wpAnyH_takeD (i := 17) (v := ?_) 51 rfl (by kernel_rfl) (by kernel_rfl) (by kernel_rfl) (fun _ _ _ h => h) (Or.inl ⟨by rfl, ?_⟩) (by assumption) rfl ?_
        rotate_left
        · intro w' hSw
          have g1 := (show Cel w' B 134 vs from hSw).cell _ _ (HV.out.2.2 48 e0 (by omega) hq1); have g2 := (show Cel w' B 134 vs from hSw).cell _ _ (HV.out.2.2 e0 48 hq1 (by omega)); have g3 := (show Cel w' B 134 vs from hSw).cell _ _ (HV.out.2.2 48 e1 (by omega) hq2); have g4 := (show Cel w' B 134 vs from hSw).cell _ _ (HV.out.2.2 e1 48 hq2 (by omega)); rw [show 1 + 48 * 49 + e0 = 2353 + e0 by omega] at g1; rw [show 1 + 48 * 49 + e1 = 2353 + e1 by omega] at g3
          go_simp <;> with_reducible rfl
        simp only [List.setIfInBounds_toArray, List.set_cons_succ, List.set_cons_zero]
        refine wpAnyH_takeD (i := 18) (v := ?_) 52 rfl (by kernel_rfl) (by kernel_rfl) (by kernel_rfl) (fun _ _ _ h => h) (Or.inl ⟨by rfl, ?_⟩) (by assumption) rfl ?_
        rotate_left
        · intro w' hSw
          have g1 := (show Cel w' B 134 vs from hSw).cell _ _ (HV.out.2.2 48 e0 (by omega) hq1); have g2 := (show Cel w' B 134 vs from hSw).cell _ _ (HV.out.2.2 e0 48 hq1 (by omega)); have g3 := (show Cel w' B 134 vs from hSw).cell _ _ (HV.out.2.2 48 e1 (by omega) hq2); have g4 := (show Cel w' B 134 vs from hSw).cell _ _ (HV.out.2.2 e1 48 hq2 (by omega)); rw [show 1 + 48 * 49 + e0 = 2353 + e0 by omega] at g1; rw [show 1 + 48 * 49 + e1 = 2353 + e1 by omega] at g3
          go_simp <;> with_reducible rfl
        simp only [List.setIfInBounds_toArray, List.set_cons_succ, List.set_cons_zero]
        refine wpAnyH_takeD (i := 19) (v := ?_) 53 rfl (by kernel_rfl) (by kernel_rfl) (by kernel_rfl) (fun _ _ _ h => h) (Or.inl ⟨by rfl, ?_⟩) (by assumption) rfl ?_
        rotate_left
        · intro w' hSw
          have g1 := (show Cel w' B 134 vs from hSw).cell _ _ (HV.out.2.2 48 e0 (by omega) hq1); have g2 := (show Cel w' B 134 vs from hSw).cell _ _ (HV.out.2.2 e0 48 hq1 (by omega)); have g3 := (show Cel w' B 134 vs from hSw).cell _ _ (HV.out.2.2 48 e1 (by omega) hq2); have g4 := (show Cel w' B 134 vs from hSw).cell _ _ (HV.out.2.2 e1 48 hq2 (by omega)); rw [show 1 + 48 * 49 + e0 = 2353 + e0 by omega] at g1; rw [show 1 + 48 * 49 + e1 = 2353 + e1 by omega] at g3
          go_simp <;> with_reducible rfl
        simp only [List.setIfInBounds_toArray, List.set_cons_succ, List.set_cons_zero]
        refine wpAnyH_takeD (i := 20) (v := ?_) 54 rfl (by kernel_rfl) (by kernel_rfl) (by kernel_rfl) (fun _ _ _ h => h) (Or.inl ⟨by rfl, ?_⟩) (by assumption) rfl ?_
        rotate_left
        · intro w' hSw
          have g1 := (show Cel w' B 134 vs from hSw).cell _ _ (HV.out.2.2 48 e0 (by omega) hq1); have g2 := (show Cel w' B 134 vs from hSw).cell _ _ (HV.out.2.2 e0 48 hq1 (by omega)); have g3 := (show Cel w' B 134 vs from hSw).cell _ _ (HV.out.2.2 48 e1 (by omega) hq2); have g4 := (show Cel w' B 134 vs from hSw).cell _ _ (HV.out.2.2 e1 48 hq2 (by omega)); rw [show 1 + 48 * 49 + e0 = 2353 + e0 by omega] at g1; rw [show 1 + 48 * 49 + e1 = 2353 + e1 by omega] at g3
          go_simp <;> with_reducible rfl
        simp only [List.setIfInBounds_toArray, List.set_cons_succ, List.set_cons_zero]
        refine wpAnyH_takeD (i := 21) (v := ?_) 55 rfl (by kernel_rfl) (by kernel_rfl) (by kernel_rfl) (fun _ _ _ h => h) (Or.inl ⟨by rfl, ?_⟩) (by assumption) rfl ?_
        rotate_left
        · intro w' hSw
          have g1 := (show Cel w' B 134 vs from hSw).cell _ _ (HV.out.2.2 48 e0 (by omega) hq1); have g2 := (show Cel w' B 134 vs from hSw).cell _ _ (HV.out.2.2 e0 48 hq1 (by omega)); have g3 := (show Cel w' B 134 vs from hSw).cell _ _ (HV.out.2.2 48 e1 (by omega) hq2); have g4 := (show Cel w' B 134 vs from hSw).cell _ _ (HV.out.2.2 e1 48 hq2 (by omega)); rw [show 1 + 48 * 49 + e0 = 2353 + e0 by omega] at g1; rw [show 1 + 48 * 49 + e1 = 2353 + e1 by omega] at g3
          go_simp <;> with_reducible rfl
        simp only [List.setIfInBounds_toArray, List.set_cons_succ, List.set_cons_zero]
        refine wpAnyH_takeD (i := 22) (v := ?_) 56 rfl (by kernel_rfl) (by kernel_rfl) (by kernel_rfl) (fun _ _ _ h => h) (Or.inl ⟨by rfl, ?_⟩) (by assumption) rfl ?_
        rotate_left
        · intro w' hSw
          have g1 := (show Cel w' B 134 vs from hSw).cell _ _ (HV.out.2.2 48 e0 (by omega) hq1); have g2 := (show Cel w' B 134 vs from hSw).cell _ _ (HV.out.2.2 e0 48 hq1 (by omega)); have g3 := (show Cel w' B 134 vs from hSw).cell _ _ (HV.out.2.2 48 e1 (by omega) hq2); have g4 := (show Cel w' B 134 vs from hSw).cell _ _ (HV.out.2.2 e1 48 hq2 (by omega)); rw [show 1 + 48 * 49 + e0 = 2353 + e0 by omega] at g1; rw [show 1 + 48 * 49 + e1 = 2353 + e1 by omega] at g3
          go_simp <;> with_reducible rfl
        simp only [List.setIfInBounds_toArray, List.set_cons_succ, List.set_cons_zero]
        refine wpAnyH_takeD (i := 23) (v := ?_) 57 rfl (by kernel_rfl) (by kernel_rfl) (by kernel_rfl) (fun _ _ _ h => h) (Or.inl ⟨by rfl, ?_⟩) (by assumption) rfl ?_
        rotate_left
        · intro w' hSw
          have g1 := (show Cel w' B 134 vs from hSw).cell _ _ (HV.out.2.2 48 e0 (by omega) hq1); have g2 := (show Cel w' B 134 vs from hSw).cell _ _ (HV.out.2.2 e0 48 hq1 (by omega)); have g3 := (show Cel w' B 134 vs from hSw).cell _ _ (HV.out.2.2 48 e1 (by omega) hq2); have g4 := (show Cel w' B 134 vs from hSw).cell _ _ (HV.out.2.2 e1 48 hq2 (by omega)); rw [show 1 + 48 * 49 + e0 = 2353 + e0 by omega] at g1; rw [show 1 + 48 * 49 + e1 = 2353 + e1 by omega] at g3
          go_simp <;> with_reducible rfl
        simp only [List.setIfInBounds_toArray, List.set_cons_succ, List.set_cons_zero]
        refine wpAnyH_takeD (i := 24) (v := ?_) 58 rfl (by kernel_rfl) (by kernel_rfl) (by kernel_rfl) (fun _ _ _ h => h) (Or.inl ⟨by rfl, ?_⟩) (by assumption) rfl ?_
        rotate_left
        · intro w' hSw
          have g1 := (show Cel w' B 134 vs from hSw).cell _ _ (HV.out.2.2 48 e0 (by omega) hq1); have g2 := (show Cel w' B 134 vs from hSw).cell _ _ (HV.out.2.2 e0 48 hq1 (by omega)); have g3 := (show Cel w' B 134 vs from hSw).cell _ _ (HV.out.2.2 48 e1 (by omega) hq2); have g4 := (show Cel w' B 134 vs from hSw).cell _ _ (HV.out.2.2 e1 48 hq2 (by omega)); rw [show 1 + 48 * 49 + e0 = 2353 + e0 by omega] at g1; rw [show 1 + 48 * 49 + e1 = 2353 + e1 by omega] at g3
          go_simp <;> with_reducible rfl
        simp only [List.setIfInBounds_toArray, List.set_cons_succ, List.set_cons_zero]
        refine wpAnyH_takeD (i := 25) (v := ?_) 59 rfl (by kernel_rfl) (by kernel_rfl) (by kernel_rfl) (fun _ _ _ h => h) (Or.inl ⟨by rfl, ?_⟩) (by assumption) rfl ?_
        rotate_left
        · intro w' hSw
          have g1 := (show Cel w' B 134 vs from hSw).cell _ _ (HV.out.2.2 48 e0 (by omega) hq1); have g2 := (show Cel w' B 134 vs from hSw).cell _ _ (HV.out.2.2 e0 48 hq1 (by omega)); have g3 := (show Cel w' B 134 vs from hSw).cell _ _ (HV.out.2.2 48 e1 (by omega) hq2); have g4 := (show Cel w' B 134 vs from hSw).cell _ _ (HV.out.2.2 e1 48 hq2 (by omega)); rw [show 1 + 48 * 49 + e0 = 2353 + e0 by omega] at g1; rw [show 1 + 48 * 49 + e1 = 2353 + e1 by omega] at g3
          go_simp <;> with_reducible rfl
        simp only [List.setIfInBounds_toArray, List.set_cons_succ, List.set_cons_zero]
        refine wpAnyH_takeD (i := 26) (v := ?_) 60 rfl (by kernel_rfl) (by kernel_rfl) (by kernel_rfl) (fun _ _ _ h => h) (Or.inl ⟨by rfl, ?_⟩) (by assumption) rfl ?_
        rotate_left
        · intro w' hSw
          have g1 := (show Cel w' B 134 vs from hSw).cell _ _ (HV.out.2.2 48 e0 (by omega) hq1); have g2 := (show Cel w' B 134 vs from hSw).cell _ _ (HV.out.2.2 e0 48 hq1 (by omega)); have g3 := (show Cel w' B 134 vs from hSw).cell _ _ (HV.out.2.2 48 e1 (by omega) hq2); have g4 := (show Cel w' B 134 vs from hSw).cell _ _ (HV.out.2.2 e1 48 hq2 (by omega)); rw [show 1 + 48 * 49 + e0 = 2353 + e0 by omega] at g1; rw [show 1 + 48 * 49 + e1 = 2353 + e1 by omega] at g3
          go_simp <;> with_reducible rfl
        simp only [List.setIfInBounds_toArray, List.set_cons_succ, List.set_cons_zero]
        refine wpAnyH_takeD (i := 27) (v := ?_) 61 rfl (by kernel_rfl) (by kernel_rfl) (by kernel_rfl) (fun _ _ _ h => h) (Or.inl ⟨by rfl, ?_⟩) (by assumption) rfl ?_
        rotate_left
        · intro w' hSw
          have g1 := (show Cel w' B 134 vs from hSw).cell _ _ (HV.out.2.2 48 e0 (by omega) hq1); have g2 := (show Cel w' B 134 vs from hSw).cell _ _ (HV.out.2.2 e0 48 hq1 (by omega)); have g3 := (show Cel w' B 134 vs from hSw).cell _ _ (HV.out.2.2 48 e1 (by omega) hq2); have g4 := (show Cel w' B 134 vs from hSw).cell _ _ (HV.out.2.2 e1 48 hq2 (by omega)); rw [show 1 + 48 * 49 + e0 = 2353 + e0 by omega] at g1; rw [show 1 + 48 * 49 + e1 = 2353 + e1 by omega] at g3
          go_simp <;> with_reducible rfl
        simp only [List.setIfInBounds_toArray, List.set_cons_succ, List.set_cons_zero]
        refine wpAnyH_takeD (i := 28) (v := ?_) 62 rfl (by kernel_rfl) (by kernel_rfl) (by kernel_rfl) (fun _ _ _ h => h) (Or.inl ⟨by rfl, ?_⟩) (by assumption) rfl ?_
        rotate_left
        · intro w' hSw
          have g1 := (show Cel w' B 134 vs from hSw).cell _ _ (HV.out.2.2 48 e0 (by omega) hq1); have g2 := (show Cel w' B 134 vs from hSw).cell _ _ (HV.out.2.2 e0 48 hq1 (by omega)); have g3 := (show Cel w' B 134 vs from hSw).cell _ _ (HV.out.2.2 48 e1 (by omega) hq2); have g4 := (show Cel w' B 134 vs from hSw).cell _ _ (HV.out.2.2 e1 48 hq2 (by omega)); rw [show 1 + 48 * 49 + e0 = 2353 + e0 by omega] at g1; rw [show 1 + 48 * 49 + e1 = 2353 + e1 by omega] at g3
          go_simp <;> with_reducible rfl
        simp only [List.setIfInBounds_toArray, List.set_cons_succ, List.set_cons_zero]
        refine wpAnyH_takeD (i := 29) (v := ?_) 63 rfl (by kernel_rfl) (by kernel_rfl) (by kernel_rfl) (fun _ _ _ h => h) (Or.inl ⟨by rfl, ?_⟩) (by assumption) rfl ?_
        rotate_left
        · intro w' hSw
          have g1 := (show Cel w' B 134 vs from hSw).cell _ _ (HV.out.2.2 48 e0 (by omega) hq1); have g2 := (show Cel w' B 134 vs from hSw).cell _ _ (HV.out.2.2 e0 48 hq1 (by omega)); have g3 := (show Cel w' B 134 vs from hSw).cell _ _ (HV.out.2.2 48 e1 (by omega) hq2); have g4 := (show Cel w' B 134 vs from hSw).cell _ _ (HV.out.2.2 e1 48 hq2 (by omega)); rw [show 1 + 48 * 49 + e0 = 2353 + e0 by omega] at g1; rw [show 1 + 48 * 49 + e1 = 2353 + e1 by omega] at g3
          go_simp <;> with_reducible rfl
        simp only [List.setIfInBounds_toArray, List.set_cons_succ, List.set_cons_zero]
        refine wpAnyH_takeD (i := 30) (v := ?_) 64 rfl (by kernel_rfl) (by kernel_rfl) (by kernel_rfl) (fun _ _ _ h => h) (Or.inl ⟨by rfl, ?_⟩) (by assumption) rfl ?_
        rotate_left
        · intro w' hSw
          have g1 := (show Cel w' B 134 vs from hSw).cell _ _ (HV.out.2.2 48 e0 (by omega) hq1); have g2 := (show Cel w' B 134 vs from hSw).cell _ _ (HV.out.2.2 e0 48 hq1 (by omega)); have g3 := (show Cel w' B 134 vs from hSw).cell _ _ (HV.out.2.2 48 e1 (by omega) hq2); have g4 := (show Cel w' B 134 vs from hSw).cell _ _ (HV.out.2.2 e1 48 hq2 (by omega)); rw [show 1 + 48 * 49 + e0 = 2353 + e0 by omega] at g1; rw [show 1 + 48 * 49 + e1 = 2353 + e1 by omega] at g3
          go_simp <;> with_reducible rfl
        simp only [List.setIfInBounds_toArray, List.set_cons_succ, List.set_cons_zero]
        refine wpAnyH_takeD (i := 31) (v := ?_) 65 rfl (by kernel_rfl) (by kernel_rfl) (by kernel_rfl) (fun _ _ _ h => h) (Or.inl ⟨by rfl, ?_⟩) (by assumption) rfl ?_
        rotate_left
        · intro w' hSw
          have g1 := (show Cel w' B 134 vs from hSw).cell _ _ (HV.out.2.2 48 e0 (by omega) hq1); have g2 := (show Cel w' B 134 vs from hSw).cell _ _ (HV.out.2.2 e0 48 hq1 (by omega)); have g3 := (show Cel w' B 134 vs from hSw).cell _ _ (HV.out.2.2 48 e1 (by omega) hq2); have g4 := (show Cel w' B 134 vs from hSw).cell _ _ (HV.out.2.2 e1 48 hq2 (by omega)); rw [show 1 + 48 * 49 + e0 = 2353 + e0 by omega] at g1; rw [show 1 + 48 * 49 + e1 = 2353 + e1 by omega] at g3
          go_simp <;> with_reducible rfl
        simp only [List.setIfInBounds_toArray, List.set_cons_succ, List.set_cons_zero]
        refine wpAnyH_ready (rs := [32]) (by kernel_rfl) (by simp) ?_
        refine AllReadyH.cons (o := _) rfl (fun K hK => ?_) AllReadyH.nil
        go_simp
        have HOa := Lib.hid (HO2.out.alloc (.cells #[.int .i64 (-(D 48 e0)), .int .i64 (D e0 48), .int .i64 (-(D 48 e1)), .int .i64 (D e1 48)] 99))
        have HSa := Lib.hid (Sl.new (s := 4) U 99 1 1 #[.int .i64 (-(D 48 e0)), .int .i64 (D e0 48), .int .i64 (-(D 48 e1)), .int .i64 (D e1 48)] rfl (Nat.le_refl _) (by decide))
        have HWa := Lib.hid (HW2.out.alloc HW2.out.size (.cells #[.int .i64 (-(D 48 e0)), .int .i64 (D e0 48), .int .i64 (-(D 48 e1)), .int .i64 (D e1 48)] 99))
        refine hK.out _ _ (hHeld.alloc _) (fun hHeld2 => ?_)
        clear hK K
        refine wpAnyH_ready (rs := [33]) (by kernel_rfl) (by simp) ?_
        refine AllReadyH.cons (o := _) rfl (fun K hK => ?_) AllReadyH.nil
        refine stepLife _ _ rfl rfl rfl rfl HOa.out HSa.out (by intro u hu; simp at hu; rcases hu with rfl | rfl | rfl | rfl <;> rfl) (N := k + 1) (by simp; omega) (by omega) HWa.out.size ?_
        intro A1 c1 w1 hap
        have HB1 := Lib.hid (below_of_own hap.grown HOa.out HWa.out (Nat.le_refl _))
        have HO1 := Lib.hid hap.own
        clear hap
        go_simp
        refine hK.out _ _ (HC.out.below HC.out.lt HB1.out) (fun hHeld3 => ?_)
        clear hK K
        refine wpAnyH_takeD (i := 34) (v := ?_) 7 rfl (by kernel_rfl) (by kernel_rfl) (by kernel_rfl) (fun _ _ _ h => h) (Or.inl ⟨by rfl, ?_⟩) (by assumption) rfl ?_
        rotate_left
        · intro w' hSw
          have g1 := (show Cel w' B 134 vs from hSw).cell _ _ (HV.out.2.2 48 e0 (by omega) hq1); have g2 := (show Cel w' B 134 vs from hSw).cell _ _ (HV.out.2.2 e0 48 hq1 (by omega)); have g3 := (show Cel w' B 134 vs from hSw).cell _ _ (HV.out.2.2 48 e1 (by omega) hq2); have g4 := (show Cel w' B 134 vs from hSw).cell _ _ (HV.out.2.2 e1 48 hq2 (by omega)); rw [show 1 + 48 * 49 + e0 = 2353 + e0 by omega] at g1; rw [show 1 + 48 * 49 + e1 = 2353 + e1 by omega] at g3
          go_simp <;> with_reducible rfl
        simp only [List.setIfInBounds_toArray, List.set_cons_succ, List.set_cons_zero]
        refine wpAnyH_done (by kernel_rfl) ?_ _
        go_wp2
        go_roundw
        case rel => exact ⟨k + 1, by go_num, by omega, by rw [HLs.out]; exact HO1.out, HB1.out⟩
        case measure => simp [intOf]; omega
      · have hkn : k = ps.length := by omega
        have HKn := Lib.hid hkn
        have HF := Lib.hid (show Below w.heap.size w wr from HB2.out.trans (HW.out.mono HB2.out.size))
        clear hkn hk
        go_wp2
        go_ret2
        exact ⟨HF.out, _, by rw [HE.out, HQ.out]; rfl, by rw [HLv.out, HQ.out, ← HKn.out]; exact Sl.of_own HO.out⟩
theorem lives_any (A : Option Addr) (n c : Nat) (F : Option Addr) (m d : Nat) (ps : List ByteArray) (fs : List Fa) (w : World) (h : NetC w A n c F m d ps fs) (hs : Short ps) :
    Calls Tryz.prog 55 #[.agg #[.slice A n c, .slice F m d]] w (LivP (livE ps fs) (livL ps fs) w) := by
  rcases checkF_cases ps fs with hc | hc | ⟨hc, hp, _, _, hf⟩
  · have := lives_bad 3 (.inl rfl) A n c F m d ps fs w h hs hc
    unfold livE livL
    rw [hc, if_pos (by decide), if_pos (by decide)]
    exact this
  · have := lives_bad 100 (.inr rfl) A n c F m d ps fs w h hs hc
    unfold livE livL
    rw [hc, if_pos (by decide), if_pos (by decide)]
    exact this
  · exact lives_good A n c F m d ps fs w h hs hc hp hf
end

section
open Go Go.RowKit Go.Shelf
attribute [local go_sem] Oper.semAt_some

/-- The error of a network and a further fact. -/
def factE (ps : List ByteArray) (fs : List Fa) (f : Fa) : Int := if checkF ps fs ≠ 0 then checkF ps fs else if aboutB ps f then 0 else 100
def mayB (ps : List ByteArray) (fs : List Fa) (f : Fa) : Bool := decide (checkF ps fs = 0) && (aboutB ps f && (solveF ps (fs ++ [f])).isSome)
set_option maxHeartbeats 1000000 in
theorem may_bad (r : Int) (hr : r = 3 ∨ r = 100) (A : Option Addr) (n c : Nat) (F : Option Addr) (m d : Nat) (ps : List ByteArray) (fs : List Fa) (f : Fa) (w : World) (h : NetC w A n c F m d ps fs) (hs : Short ps) (hc : checkF ps fs = r) :
    Calls Tryz.prog 68 #[.agg #[.slice A n c, .slice F m d], faA f] w fun e w' => e = .returned (.tuple #[.bool false, .int .i64 r]) ∧ Below w.heap.size w w' := by
  unfold faA
  obtain ⟨k, a, b, t⟩ := f
  simp only
  have hb0 := (below_alloc' w (.cells #[.slice A n c, .slice F m d] 25)).alloc (by simp) (.cells #[.int .i64 k, .string a, .string b, .int .i64 t] 76)
  have HK := Lib.hid (check_is hc _ (h.below hb0) hs)
  clear h hs hc
  rcases hr with rfl | rfl
  all_goals
    go_enter Tryz.func68, Tryz.ntmps68
    go_wp2_with fail
    refine HK.out.mono ?_
    rintro e w1 ⟨rfl, hb1⟩
    have HB := Lib.hid (hb0.trans (hb1.mono hb0.size))
    clear hb0 hb1
    go_wp2
    go_ret2
    exact ⟨rfl, HB.out⟩
set_option maxRecDepth 100000 in
set_option maxHeartbeats 1000000 in
theorem may_no (A : Option Addr) (n c : Nat) (F : Option Addr) (m d : Nat) (ps : List ByteArray) (fs : List Fa) (f : Fa) (w : World) (h : NetC w A n c F m d ps fs) (hs : Short ps) (hc : checkF ps fs = 0) (hf : aboutB ps f = false) :
    Calls Tryz.prog 68 #[.agg #[.slice A n c, .slice F m d], faA f] w fun e w' => e = .returned (.tuple #[.bool false, .int .i64 100]) ∧ Below w.heap.size w w' := by
  have HA := Lib.hid (fun w' h' => about_any (.slice A n c) ps f w' h')
  rw [hf] at HA
  unfold faA at *
  obtain ⟨k, a, b, t⟩ := f
  simp only at *
  have hb0 := (below_alloc' w (.cells #[.slice A n c, .slice F m d] 25)).alloc (by simp) (.cells #[.int .i64 k, .string a, .string b, .int .i64 t] 76)
  have y0 := (Cel.new w 25 #[.slice A n c, .slice F m d]).alloc (.cells #[.int .i64 k, .string a, .string b, .int .i64 t] 76)
  have y1 := Cel.new (w.alloc (.cells #[.slice A n c, .slice F m d] 25)) 76 #[.int .i64 k, .string a, .string b, .int .i64 t]
  rw [World.size_alloc] at y1
  have HK := Lib.hid (check_is hc _ (h.below hb0) hs)
  have HN := Lib.hid h
  clear h hs hc hf
  go_enter Tryz.func68, Tryz.ntmps68
  go_wp2_with fail
  refine HK.out.mono ?_
  rintro e w1 ⟨rfl, hb1⟩
  have HB := Lib.hid (hb0.trans (hb1.mono hb0.size))
  have x0 := y0.below y0.lt hb1
  have x1 := y1.below y1.lt hb1
  have z0 := x0.cell 0 _ rfl
  have z1 := x0.cell 1 _ rfl
  have z2 := x1.cell 0 _ rfl
  have z3 := x1.cell 1 _ rfl
  have z4 := x1.cell 2 _ rfl
  have z5 := x1.cell 3 _ rfl
  clear hb0 hb1 y0 y1 x0 x1
  go_wp2_with fail
  refine (HA.out w1 (HN.out.people.below HB.out)).mono ?_
  rintro e w2 ⟨rfl, hb2⟩
  have HB2 := Lib.hid (HB.out.trans (hb2.mono HB.out.size))
  clear hb2 z0 z1 z2 z3 z4 z5
  go_wp2
  go_ret2
  exact ⟨rfl, HB2.out⟩
set_option maxRecDepth 100000 in
set_option maxHeartbeats 1000000 in
theorem may_good (A : Option Addr) (n c : Nat) (F : Option Addr) (m d : Nat) (ps : List ByteArray) (fs : List Fa) (f : Fa) (w : World) (h : NetC w A n c F m d ps fs) (hs : Short ps) (hc : checkF ps fs = 0) (hp : ps.length ≤ 24) (hfs : AllAbout ps fs) (hf : aboutB ps f = true) :
    Calls Tryz.prog 68 #[.agg #[.slice A n c, .slice F m d], faA f] w fun e w' => e = .returned (.tuple #[.bool (solveF ps (fs ++ [f])).isSome, .int .i64 0]) ∧ Below w.heap.size w w' := by
  have HA := Lib.hid (fun w' h' => about_any (.slice A n c) ps f w' h')
  rw [hf] at HA
  have HS := Lib.hid (fun w' h' => solve_any A n c F m d ps fs w' h' hp hfs)
  have HD := Lib.hid (fun (B : Nat) (D : Mat) vs w' hC hV hSl hG => padd_any B ps f D (.slice A n c) vs w' hC hV hSl hp hG hf)
  have HG := Lib.hid (fun D e => solveF_good (D := D) hp hfs e)
  have HX := Lib.hid (solveF_snoc ps fs f)
  unfold faA at *
  obtain ⟨k, a, b, t⟩ := f
  simp only at HA HS HD HX
  have hb0 := (below_alloc' w (.cells #[.slice A n c, .slice F m d] 25)).alloc (by simp) (.cells #[.int .i64 k, .string a, .string b, .int .i64 t] 76)
  have y0 := (Cel.new w 25 #[.slice A n c, .slice F m d]).alloc (.cells #[.int .i64 k, .string a, .string b, .int .i64 t] 76)
  have y1 := Cel.new (w.alloc (.cells #[.slice A n c, .slice F m d] 25)) 76 #[.int .i64 k, .string a, .string b, .int .i64 t]
  rw [World.size_alloc] at y1
  have HK := Lib.hid (check_is hc _ (h.below hb0) hs)
  have HN := Lib.hid h
  clear h hs hc hf hfs
  simp only
  go_enter Tryz.func68, Tryz.ntmps68
  go_wp2_with fail
  refine HK.out.mono ?_
  rintro e w1 ⟨rfl, hb1⟩
  have HB := Lib.hid (hb0.trans (hb1.mono hb0.size))
  have x0 := y0.below y0.lt hb1
  have x1 := y1.below y1.lt hb1
  have H0 := Lib.hid x0
  have H1 := Lib.hid x1
  have z0 := x0.cell 0 _ rfl
  have z1 := x0.cell 1 _ rfl
  have z2 := x1.cell 0 _ rfl
  have z3 := x1.cell 1 _ rfl
  have z4 := x1.cell 2 _ rfl
  have z5 := x1.cell 3 _ rfl
  clear hb0 hb1 y0 y1 x0 x1
  go_wp2_with fail
  refine (HA.out w1 (HN.out.people.below HB.out)).mono ?_
  rintro e w2 ⟨rfl, hb2⟩
  have HB2 := Lib.hid (HB.out.trans (hb2.mono HB.out.size))
  have x0 := H0.out.below H0.out.lt hb2
  have x1 := H1.out.below H1.out.lt hb2
  have H2 := Lib.hid x0
  have H3 := Lib.hid x1
  clear hb2 z0 z1 z2 z3 z4 z5
  have z0 := x0.cell 0 _ rfl
  have z1 := x0.cell 1 _ rfl
  clear x0 x1
  go_wp2_with fail
  refine (HS.out w2 (HN.out.below HB2.out)).mono ?_
  rintro e w3 ⟨hb3, h2⟩
  have HB3 := Lib.hid (HB2.out.trans (hb3.mono HB2.out.size))
  have x1 := H3.out.below H3.out.lt hb3
  have HS3 := Lib.hid HB2.out.size
  clear hb3 z0 z1
  rcases h2 with ⟨hq, rfl⟩ | ⟨D, B, vs, hq, rfl, hB, hV, hC⟩
  · have HQ := Lib.hid hq
    clear hq x1
    go_wp2
    go_ret2
    exact ⟨by rw [HX.out, HQ.out]; rfl, HB3.out⟩
  · have HQ := Lib.hid hq
    have HD2 := Lib.hid (HD.out B D vs w3 hC hV (HN.out.people.below HB3.out) (HG.out D hq))
    have z2 := x1.cell 0 _ rfl
    have z3 := x1.cell 1 _ rfl
    have z4 := x1.cell 2 _ rfl
    have z5 := x1.cell 3 _ rfl
    have HBB := Lib.hid hB
    clear hq hC hV hB x1
    go_wp2_with fail
    refine HD2.out.mono ?_
    rintro e w4 ⟨rfl, hg, _⟩
    have HB4 := Lib.hid (HB3.out.grown hg (by have := HB3.out.size; omega) (fun j e => by cases e; have := HBB.out; have := HS3.out; omega))
    clear hg z2 z3 z4 z5
    have HR := Lib.hid (show (solveF ps (fs ++ [⟨k, a, b, t⟩])).isSome = (amL D (boundsF ps ⟨k, a, b, t⟩)).isSome by rw [HX.out, HQ.out]; rfl)
    generalize (amL D (boundsF ps ⟨k, a, b, t⟩)).isSome = r at *
    go_wp2
    go_ret2
    exact ⟨by rw [HR.out]; rfl, HB4.out⟩
theorem may_any (A : Option Addr) (n c : Nat) (F : Option Addr) (m d : Nat) (ps : List ByteArray) (fs : List Fa) (f : Fa) (w : World) (h : NetC w A n c F m d ps fs) (hs : Short ps) :
    Calls Tryz.prog 68 #[.agg #[.slice A n c, .slice F m d], faA f] w fun e w' => e = .returned (.tuple #[.bool (mayB ps fs f), .int .i64 (factE ps fs f)]) ∧ Below w.heap.size w w' := by
  unfold mayB factE
  rcases checkF_cases ps fs with hc | hc | ⟨hc, hp, _, _, hf⟩
  · have := may_bad 3 (.inl rfl) A n c F m d ps fs f w h hs hc
    rw [hc]
    exact this
  · have := may_bad 100 (.inr rfl) A n c F m d ps fs f w h hs hc
    rw [hc]
    exact this
  · cases ha : aboutB ps f with
    | false =>
      have := may_no A n c F m d ps fs f w h hs hc ha
      rw [hc]
      exact this
    | true =>
      have := may_good A n c F m d ps fs f w h hs hc hp hf ha
      rw [hc, if_neg (fun q => q rfl), if_pos rfl, Bool.true_and, decide_eq_true rfl, Bool.true_and]
      exact this
end

section
open Go Go.RowKit Go.Shelf
attribute [local go_sem] Oper.semAt_some

/-- Does a bound not hold in all solutions? -/
def overB (D : Mat) (b : Bo) : Bool := decide (b.by_ < D b.x b.y)
set_option maxRecDepth 100000 in
set_option maxHeartbeats 1000000 in
theorem must1_any (B Bl x y : Nat) (by_ : Int) (D : Mat) (pv : Value) (vs : Array Value) (w : World) (hC : Cel w B 134 vs) (hV : LvV vs pv D) (hl : Cel w Bl 85 #[.pointer (some ⟨B, 0, none⟩)]) (hx : x < 49) (hy : y < 49) :
    Calls Tryz.prog 104 #[.agg #[.int .i64 x, .int .i64 y, .int .i64 by_], .pointer (some ⟨Bl, 0, none⟩)] w fun e w' => e = .returned (.bool (decide (by_ < D x y))) ∧ Below w.heap.size w w' := by
  have hxi : (x : Int) < 49 := by omega
  have hyi : (y : Int) < 49 := by omega
  have hb0 := below_alloc' w (.cells #[.int .i64 (x : Int), .int .i64 (y : Int), .int .i64 by_] 141)
  have c1 := (hC.below hC.lt hb0).cell _ _ (hV.2.2 x y hx hy)
  have l1 := (hl.below hl.lt hb0).cell 0 _ rfl
  have y0 := Cel.new w 141 #[.int .i64 (x : Int), .int .i64 (y : Int), .int .i64 by_]
  have z0 := y0.cell 0 _ rfl
  have z1 := y0.cell 1 _ rfl
  have z2 := y0.cell 2 _ rfl
  have HB := Lib.hid hb0
  clear hC hV hl hb0 y0
  go_enter Tryz.func104, Tryz.ntmps104
  go_wp2
  generalize w.alloc (.cells #[.int .i64 (x : Int), .int .i64 (y : Int), .int .i64 by_] 141) = W at *
  go_quiet (fail)
  go_wp2
  go_ret
  exact ⟨rfl, below_drewN HB.out _⟩
/-- A function value that tells bounds apart, in whatever world has come of w. -/
def TellsB (w : World) (g : Nat) (lb : Array Value) (p : Bo → Bool) (l : List Bo) : Prop := ∀ w', Below w.heap.size w w' → ∀ b ∈ l, Calls Tryz.prog g (#[.agg #[.int .i64 b.x, .int .i64 b.y, .int .i64 b.by_]] ++ lb) w' fun e w'' => e = .returned (.bool (p b)) ∧ Below w'.heap.size w' w''
set_option maxRecDepth 100000 in
set_option maxHeartbeats 1000000 in
theorem indexFuncB (p : Bo → Bool) (Bl : Nat) (l : List Bo) (v : Value) (base : Nat) (w : World) (hv : SlB w base 3 v (bosV l)) (hT : TellsB w 104 #[.pointer (some ⟨Bl, 0, none⟩)] p l) :
    Calls Tryz.prog 124 #[v, .func (.func 104) #[] #[.pointer (some ⟨Bl, 0, none⟩)]] w fun e w' => (∃ i : Int, e = .returned (.int .i64 i) ∧ decide (0 ≤ i) = l.any p) ∧ Below w.heap.size w w' := by
  have hv0 := hv
  obtain ⟨h1, bv, n, c, rfl, hb⟩ := hv0
  obtain ⟨A1, n1, c1, e, hl, hcap, hcm, _⟩ := h1
  cases e
  rw [bosV_length] at hl
  obtain rfl : n = l.length := by omega
  have HV := Lib.hid hv
  have HT := Lib.hid hT
  clear hv hT hb hl
  go_enter Tryz.func124, Tryz.ntmps124
  go_wp2
  go_loopw [8] (fun ti wr => ∃ k : Nat, ti = .int .i64 k ∧ k ≤ l.length ∧ Hid (Below w.heap.size w wr) ∧ Hid (∀ b ∈ l.take k, p b = false)) (fun ti _ => l.length - (intOf ti).toNat)
  case atStart => exact ⟨0, rfl, by omega, Below.refl _ _, fun b hb => by simp at hb⟩
  case round =>
    obtain ⟨k, rfl, hk, HW, HO⟩ := hrel
    by_cases hlt : k < l.length
    · have hki : (k : Int) < (l.length : Int) := by omega
      have hg : l[k]? = some l[k] := List.getElem?_eq_getElem hlt
      obtain ⟨g1, g2, g3⟩ := bosV_get hg
      have d1 := (HV.out.below HW.out).cells g1
      have d2 := (HV.out.below HW.out).cells g2
      have d3 := (HV.out.below HW.out).cells g3
      have HC := Lib.hid (HT.out _ HW.out l[k] (List.getElem_mem hlt))
      have HM := Lib.hid (List.getElem_mem hlt)
      have HTk := Lib.hid (show l.take (k + 1) = l.take k ++ [l[k]] by rw [List.take_add_one, hg]; rfl)
      clear g1 g2 g3 hg
      generalize l[k] = b at *
      obtain ⟨x, y, by_⟩ := b
      simp only [List.append_toArray, List.cons_append, List.nil_append] at HC d1 d2 d3
      go_wp2_with fail
      refine HC.out.mono ?_
      rintro e w2 ⟨rfl, hb2⟩
      have HW2 := Lib.hid (HW.out.trans (hb2.mono HW.out.size))
      clear hb2 d1 d2 d3
      cases hq : p ⟨x, y, by_⟩ with
      | true =>
        have HR := Lib.hid (show l.any p = true by rw [List.any_eq_true]; exact ⟨_, HM.out, hq⟩)
        clear hq
        go_wp2
        go_ret
        exact ⟨⟨_, rfl, by rw [HR.out]; exact decide_eq_true (by omega)⟩, HW2.out⟩
      | false =>
        have HQ := Lib.hid hq
        clear hq
        go_wp2
        go_roundw
        case rel =>
          refine ⟨k + 1, by go_num, by omega, HW2.out, ?_⟩
          show ∀ b ∈ l.take (k + 1), p b = false
          rw [HTk.out]
          intro b hb
          rcases List.mem_append.1 hb with q | q
          · exact HO.out b q
          · rw [List.mem_singleton.1 q]; exact HQ.out
        case measure => simp [intOf]; omega
    · have hkn : k = l.length := by omega
      have HR := Lib.hid (show l.any p = false by
        rw [List.any_eq_false]
        intro b hb
        have := HO.out b (by rw [hkn, List.take_length]; exact hb)
        rw [this]
        simp)
      clear hkn
      go_wp2
      go_ret
      exact ⟨⟨_, rfl, by rw [HR.out]; rfl⟩, HW.out⟩
set_option maxHeartbeats 1000000 in
theorem containsFuncB (p : Bo → Bool) (Bl : Nat) (l : List Bo) (v : Value) (base : Nat) (w : World) (hv : SlB w base 3 v (bosV l)) (hT : TellsB w 104 #[.pointer (some ⟨Bl, 0, none⟩)] p l) :
    Calls Tryz.prog 102 #[v, .func (.func 104) #[] #[.pointer (some ⟨Bl, 0, none⟩)]] w fun e w' => e = .returned (.bool (l.any p)) ∧ Below w.heap.size w w' := by
  have HI := Lib.hid (indexFuncB p Bl l v base w hv hT)
  obtain ⟨h1, bv, n, c, rfl, hb⟩ := hv
  clear h1 hT hb
  go_enter Tryz.func102, Tryz.ntmps102
  go_wp2_with fail
  refine HI.out.mono ?_
  rintro e w' ⟨⟨i, rfl, hi⟩, hb⟩
  have HH := Lib.hid hi
  have HB := Lib.hid hb
  clear hi hb
  go_wp2
  go_ret
  exact ⟨by rw [← HH.out]; rfl, HB.out⟩
/-- Does the condition of a fact hold in all solutions? -/
def mustB (D : Mat) (ps : List ByteArray) (f : Fa) : Bool := !(boundsF ps f).any (overB D)
set_option maxRecDepth 100000 in
set_option maxHeartbeats 1000000 in
theorem pmust_any (B : Nat) (ps : List ByteArray) (f : Fa) (D : Mat) (pv : Value) (vs : Array Value) (w : World) (hC : Cel w B 134 vs) (hV : LvV vs pv D) (hS : Sl w 1 pv (namesV ps)) (hp : ps.length ≤ 24) (hf : aboutB ps f = true) :
    Calls Tryz.prog 63 #[.pointer (some ⟨B, 0, none⟩), faA f] w fun e w' => e = .returned (.bool (mustB D ps f)) ∧ Below w.heap.size w w' := by
  have hin := boundsF_in hf
  have HBo := Lib.hid (fun w' h' => bounds_any B ps f w' h' hp hf)
  have HM := Lib.hid (show mustB D ps f = !(boundsF ps f).any (overB D) from rfl)
  unfold faA at *
  obtain ⟨k, a, b, t⟩ := f
  simp only at HBo
  simp only
  have hb0 := (below_alloc' w (.cells #[.pointer (some ⟨B, 0, none⟩)] 85)).alloc (by simp) (.cells #[.int .i64 k, .string a, .string b, .int .i64 t] 76)
  have y0 := (Cel.new w 85 #[.pointer (some ⟨B, 0, none⟩)]).alloc (.cells #[.int .i64 k, .string a, .string b, .int .i64 t] 76)
  have HC := Lib.hid (hC.below hC.lt hb0)
  have HPe := Lib.hid (show PeC ((w.alloc (.cells #[.pointer (some ⟨B, 0, none⟩)] 85)).alloc (.cells #[.int .i64 k, .string a, .string b, .int .i64 t] 76)) B ps from ⟨vs, pv, hC.below hC.lt hb0, hV.2.1, hS.below hb0⟩)
  have HV := Lib.hid hV
  have HIn := Lib.hid hin
  have HY := Lib.hid y0
  have HB0 := Lib.hid hb0
  have hmf : ∀ (fn : Fn) (first cap : Array Value) (w : World), (Instr.makeFunc fn first cap).run Tryz.prog w = .ok (.func fn first cap) w := fun _ _ _ _ => rfl
  clear hC hV hS hf hin y0 hb0
  go_enter Tryz.func63, Tryz.ntmps63
  go_wp2_with fail
  refine (HBo.out _ HPe.out).mono ?_
  rintro e w1 ⟨v, rfl, hs1, hb1⟩
  have HSl := Lib.hid hs1
  have HB1 := Lib.hid hb1
  have HC1 := Lib.hid (HC.out.below HC.out.lt hb1)
  have HY1 := Lib.hid (HY.out.below HY.out.lt hb1)
  have HBB := Lib.hid (HB0.out.trans (hb1.mono HB0.out.size))
  clear hs1 hb1
  go_wp2_with fail
  refine (containsFuncB (overB D) w.heap.size (boundsF ps ⟨k, a, b, t⟩) v _ w1 HSl.out ?_).mono ?_
  · intro w' hw' q hq
    obtain ⟨hx, hy⟩ := HIn.out q hq
    exact must1_any B w.heap.size q.x q.y q.by_ D pv vs w' (HC1.out.below HC1.out.lt hw') HV.out (HY1.out.below HY1.out.lt hw') (hx.lt hp) (hy.lt hp)
  rintro e w2 ⟨rfl, hb2⟩
  have HB2 := Lib.hid (HBB.out.trans (hb2.mono HBB.out.size))
  clear hb2
  go_wp2
  go_ret
  exact ⟨by rw [HM.out]; rfl, HB2.out⟩
end

section
open Go Go.RowKit Go.Shelf
attribute [local go_sem] Oper.semAt_some

/-- Does the condition of a fact hold in all solutions of a network that has one? -/
def mustF (ps : List ByteArray) (fs : List Fa) (f : Fa) : Bool := match solveF ps fs with
  | some D => mustB D ps f
  | none => false
def contraryF (ps : List ByteArray) (fs : List Fa) : Int := if (solveF ps fs).isSome then 0 else 101
def mustV (ps : List ByteArray) (fs : List Fa) (f : Fa) : Bool := decide (checkF ps fs = 0) && (aboutB ps f && mustF ps fs f)
def mustE (ps : List ByteArray) (fs : List Fa) (f : Fa) : Int := if checkF ps fs ≠ 0 then checkF ps fs else if aboutB ps f then contraryF ps fs else 100
theorem must_none {ps : List ByteArray} {fs : List Fa} {f : Fa} (h : solveF ps fs = none) : mustF ps fs f = false := by unfold mustF; rw [h]
theorem must_some {ps : List ByteArray} {fs : List Fa} {f : Fa} {D : Mat} (h : solveF ps fs = some D) : mustF ps fs f = mustB D ps f := by unfold mustF; rw [h]
theorem contrary_none {ps : List ByteArray} {fs : List Fa} (h : solveF ps fs = none) : contraryF ps fs = 101 := by unfold contraryF; rw [h]; rfl
theorem contrary_some {ps : List ByteArray} {fs : List Fa} {D : Mat} (h : solveF ps fs = some D) : contraryF ps fs = 0 := by unfold contraryF; rw [h]; rfl
set_option maxHeartbeats 1000000 in
theorem pMust_bad (r : Int) (hr : r = 3 ∨ r = 100) (A : Option Addr) (n c : Nat) (F : Option Addr) (m d : Nat) (ps : List ByteArray) (fs : List Fa) (f : Fa) (w : World) (h : NetC w A n c F m d ps fs) (hs : Short ps) (hc : checkF ps fs = r) :
    Calls Tryz.prog 52 #[.agg #[.slice A n c, .slice F m d], faA f] w fun e w' => e = .returned (.tuple #[.bool false, .int .i64 r]) ∧ Below w.heap.size w w' := by
  unfold faA
  obtain ⟨k, a, b, t⟩ := f
  simp only
  have hb0 := (below_alloc' w (.cells #[.slice A n c, .slice F m d] 25)).alloc (by simp) (.cells #[.int .i64 k, .string a, .string b, .int .i64 t] 76)
  have HK := Lib.hid (check_is hc _ (h.below hb0) hs)
  clear h hs hc
  rcases hr with rfl | rfl
  all_goals
    go_enter Tryz.func52, Tryz.ntmps52
    go_wp2_with fail
    refine HK.out.mono ?_
    rintro e w1 ⟨rfl, hb1⟩
    have HB := Lib.hid (hb0.trans (hb1.mono hb0.size))
    clear hb0 hb1
    go_wp2
    go_ret2
    exact ⟨rfl, HB.out⟩
set_option maxRecDepth 100000 in
set_option maxHeartbeats 1000000 in
theorem pMust_no (A : Option Addr) (n c : Nat) (F : Option Addr) (m d : Nat) (ps : List ByteArray) (fs : List Fa) (f : Fa) (w : World) (h : NetC w A n c F m d ps fs) (hs : Short ps) (hc : checkF ps fs = 0) (hf : aboutB ps f = false) :
    Calls Tryz.prog 52 #[.agg #[.slice A n c, .slice F m d], faA f] w fun e w' => e = .returned (.tuple #[.bool false, .int .i64 100]) ∧ Below w.heap.size w w' := by
  have HA := Lib.hid (fun w' h' => about_any (.slice A n c) ps f w' h')
  rw [hf] at HA
  unfold faA at *
  obtain ⟨k, a, b, t⟩ := f
  simp only at *
  have hb0 := (below_alloc' w (.cells #[.slice A n c, .slice F m d] 25)).alloc (by simp) (.cells #[.int .i64 k, .string a, .string b, .int .i64 t] 76)
  have y0 := (Cel.new w 25 #[.slice A n c, .slice F m d]).alloc (.cells #[.int .i64 k, .string a, .string b, .int .i64 t] 76)
  have y1 := Cel.new (w.alloc (.cells #[.slice A n c, .slice F m d] 25)) 76 #[.int .i64 k, .string a, .string b, .int .i64 t]
  rw [World.size_alloc] at y1
  have HK := Lib.hid (check_is hc _ (h.below hb0) hs)
  have HN := Lib.hid h
  clear h hs hc hf
  go_enter Tryz.func52, Tryz.ntmps52
  go_wp2_with fail
  refine HK.out.mono ?_
  rintro e w1 ⟨rfl, hb1⟩
  have HB := Lib.hid (hb0.trans (hb1.mono hb0.size))
  have x0 := y0.below y0.lt hb1
  have x1 := y1.below y1.lt hb1
  have z0 := x0.cell 0 _ rfl
  have z1 := x0.cell 1 _ rfl
  have z2 := x1.cell 0 _ rfl
  have z3 := x1.cell 1 _ rfl
  have z4 := x1.cell 2 _ rfl
  have z5 := x1.cell 3 _ rfl
  clear hb0 hb1 y0 y1 x0 x1
  go_wp2_with fail
  refine (HA.out w1 (HN.out.people.below HB.out)).mono ?_
  rintro e w2 ⟨rfl, hb2⟩
  have HB2 := Lib.hid (HB.out.trans (hb2.mono HB.out.size))
  clear hb2 z0 z1 z2 z3 z4 z5
  go_wp2
  go_ret2
  exact ⟨rfl, HB2.out⟩
set_option maxRecDepth 100000 in
set_option maxHeartbeats 1000000 in
theorem pMust_good (A : Option Addr) (n c : Nat) (F : Option Addr) (m d : Nat) (ps : List ByteArray) (fs : List Fa) (f : Fa) (w : World) (h : NetC w A n c F m d ps fs) (hs : Short ps) (hc : checkF ps fs = 0) (hp : ps.length ≤ 24) (hfs : AllAbout ps fs) (hf : aboutB ps f = true) :
    Calls Tryz.prog 52 #[.agg #[.slice A n c, .slice F m d], faA f] w fun e w' => e = .returned (.tuple #[.bool (mustF ps fs f), .int .i64 (contraryF ps fs)]) ∧ Below w.heap.size w w' := by
  have HA := Lib.hid (fun w' h' => about_any (.slice A n c) ps f w' h')
  rw [hf] at HA
  have HS := Lib.hid (fun w' h' => solve_any A n c F m d ps fs w' h' hp hfs)
  have HD := Lib.hid (fun (B : Nat) (D : Mat) vs w' hC hV hSl => pmust_any B ps f D (.slice A n c) vs w' hC hV hSl hp hf)
  unfold faA at *
  obtain ⟨k, a, b, t⟩ := f
  simp only at HA HS HD
  have hb0 := (below_alloc' w (.cells #[.slice A n c, .slice F m d] 25)).alloc (by simp) (.cells #[.int .i64 k, .string a, .string b, .int .i64 t] 76)
  have y0 := (Cel.new w 25 #[.slice A n c, .slice F m d]).alloc (.cells #[.int .i64 k, .string a, .string b, .int .i64 t] 76)
  have y1 := Cel.new (w.alloc (.cells #[.slice A n c, .slice F m d] 25)) 76 #[.int .i64 k, .string a, .string b, .int .i64 t]
  rw [World.size_alloc] at y1
  have HK := Lib.hid (check_is hc _ (h.below hb0) hs)
  have HN := Lib.hid h
  clear h hs hc hf hfs
  simp only
  go_enter Tryz.func52, Tryz.ntmps52
  go_wp2_with fail
  refine HK.out.mono ?_
  rintro e w1 ⟨rfl, hb1⟩
  have HB := Lib.hid (hb0.trans (hb1.mono hb0.size))
  have x0 := y0.below y0.lt hb1
  have x1 := y1.below y1.lt hb1
  have H0 := Lib.hid x0
  have H1 := Lib.hid x1
  have z0 := x0.cell 0 _ rfl
  have z1 := x0.cell 1 _ rfl
  have z2 := x1.cell 0 _ rfl
  have z3 := x1.cell 1 _ rfl
  have z4 := x1.cell 2 _ rfl
  have z5 := x1.cell 3 _ rfl
  clear hb0 hb1 y0 y1 x0 x1
  go_wp2_with fail
  refine (HA.out w1 (HN.out.people.below HB.out)).mono ?_
  rintro e w2 ⟨rfl, hb2⟩
  have HB2 := Lib.hid (HB.out.trans (hb2.mono HB.out.size))
  have x0 := H0.out.below H0.out.lt hb2
  have x1 := H1.out.below H1.out.lt hb2
  have H2 := Lib.hid x0
  have H3 := Lib.hid x1
  clear hb2 z0 z1 z2 z3 z4 z5
  have z0 := x0.cell 0 _ rfl
  have z1 := x0.cell 1 _ rfl
  clear x0 x1
  go_wp2_with fail
  refine (HS.out w2 (HN.out.below HB2.out)).mono ?_
  rintro e w3 ⟨hb3, h2⟩
  have HB3 := Lib.hid (HB2.out.trans (hb3.mono HB2.out.size))
  have x1 := H3.out.below H3.out.lt hb3
  clear hb3 z0 z1
  rcases h2 with ⟨hq, rfl⟩ | ⟨D, B, vs, hq, rfl, hB, hV, hC⟩
  · have HQ := Lib.hid hq
    clear hq x1
    go_wp2
    go_ret2
    exact ⟨by rw [must_none HQ.out, contrary_none HQ.out]; rfl, HB3.out⟩
  · have HQ := Lib.hid hq
    have HD2 := Lib.hid (HD.out B D vs w3 hC hV (HN.out.people.below HB3.out))
    have z2 := x1.cell 0 _ rfl
    have z3 := x1.cell 1 _ rfl
    have z4 := x1.cell 2 _ rfl
    have z5 := x1.cell 3 _ rfl
    clear hq hC hV hB x1
    go_wp2_with fail
    refine HD2.out.mono ?_
    rintro e w4 ⟨rfl, hb4⟩
    have HB4 := Lib.hid (HB3.out.trans (hb4.mono HB3.out.size))
    clear hb4 z2 z3 z4 z5
    have HR := Lib.hid (must_some (f := ⟨k, a, b, t⟩) HQ.out)
    generalize mustB D ps ⟨k, a, b, t⟩ = r at *
    go_wp2
    go_ret2
    exact ⟨by rw [HR.out, contrary_some HQ.out]; rfl, HB4.out⟩
theorem pMust_any (A : Option Addr) (n c : Nat) (F : Option Addr) (m d : Nat) (ps : List ByteArray) (fs : List Fa) (f : Fa) (w : World) (h : NetC w A n c F m d ps fs) (hs : Short ps) :
    Calls Tryz.prog 52 #[.agg #[.slice A n c, .slice F m d], faA f] w fun e w' => e = .returned (.tuple #[.bool (mustV ps fs f), .int .i64 (mustE ps fs f)]) ∧ Below w.heap.size w w' := by
  unfold mustV mustE
  rcases checkF_cases ps fs with hc | hc | ⟨hc, hp, _, _, hf⟩
  · have := pMust_bad 3 (.inl rfl) A n c F m d ps fs f w h hs hc
    rw [hc]
    exact this
  · have := pMust_bad 100 (.inr rfl) A n c F m d ps fs f w h hs hc
    rw [hc]
    exact this
  · cases ha : aboutB ps f with
    | false =>
      have := pMust_no A n c F m d ps fs f w h hs hc ha
      rw [hc]
      exact this
    | true =>
      have := pMust_good A n c F m d ps fs f w h hs hc hp hf ha
      rw [hc, if_neg (fun q => q rfl), if_pos rfl, Bool.true_and, decide_eq_true rfl, Bool.true_and]
      exact this
end

section
open Go Go.RowKit Go.Shelf Go.Sort
attribute [local go_sem] Oper.semAt_some

def bytesL (l : List ByteArray) : List (List UInt8) := l.map (·.data.toList)
def ofB (l : List (List UInt8)) : List ByteArray := l.map fun b => ⟨b.toArray⟩
theorem of_bytes (l : List ByteArray) : ofB (bytesL l) = l := by
  unfold ofB bytesL
  rw [List.map_map]
  conv => rhs; rw [← List.map_id l]
  apply List.map_congr_left
  intro b _
  rfl
theorem bytes_of (l : List (List UInt8)) : bytesL (ofB l) = l := by
  unfold ofB bytesL
  rw [List.map_map]
  conv => rhs; rw [← List.map_id l]
  apply List.map_congr_left
  intro b _
  simp
theorem names_enc (l : List ByteArray) : namesV l = (bytesL l).map encStr := by
  unfold namesV bytesL encStr
  rw [List.map_map]
  apply List.map_congr_left
  intro b _
  rfl
theorem enc_names (l : List (List UInt8)) : l.map encStr = namesV (ofB l) := by
  rw [names_enc, bytes_of]
def sortB (l : List ByteArray) : List (List UInt8) := (bytesL l).mergeSort fun x y => decide (x ≤ y)
/-- Sorted. -/
def sortL (l : List ByteArray) : List ByteArray := ofB (sortB l)
/-- Sorted, each once. -/
def setL (l : List ByteArray) : List ByteArray := ofB (Lib.compact (sortB l))
theorem sortB_length (l : List ByteArray) : (sortB l).length = l.length := by simp [sortB, bytesL]
theorem sortL_length (l : List ByteArray) : (sortL l).length = l.length := by simp [sortL, ofB, sortB_length]
theorem bytesL_length (l : List ByteArray) : (bytesL l).length = l.length := by simp [bytesL]
theorem sortL_nil : sortL [] = [] := by simp [sortL, sortB, bytesL, ofB]
theorem setL_nil : setL [] = [] := by simp [setL, sortB, bytesL, ofB, Lib.compact, Lib.compactUpTo]
theorem sort_own (base : Nat) (v : Value) (l : List ByteArray) (w : World) (hown : w.ownsRow base 9 1 v l.length (namesV l)) (hl : l.length ≤ 1048576) :
    Calls Tryz.prog 85 #[v] w fun e w' => e = .returned (.tuple #[]) ∧ w'.ownsRow base 9 1 v l.length (namesV (sortL l)) ∧ w.grownBy w' v.ownBlock := by
  obtain ⟨h0, ⟨rfl, hn⟩ | ⟨g, cap, cur, rfl, hg, hh, h1, h2, h3, h4⟩⟩ := hown
  · refine (Tryz.slices_Sort_string_none none 0 w).mono ?_
    rintro e w' ⟨rfl, rfl⟩
    have e0 : l = [] := List.length_eq_zero_iff.1 hn
    subst e0
    rw [sortL_nil]
    exact ⟨rfl, World.ownsRow_nil _ _ _ _, World.grownBy.refl _ _⟩
  · have hH := holds_of_block (ss := bytesL l) hh (by rw [bytesL_length, ← names_enc]; simpa using h4)
    have hc := Tryz.slices_Sort_string g 0 cap (bytesL l) w hH (Array.getElem?_eq_some_iff.1 hh).1 (by rw [bytesL_length]; omega)
    rw [bytesL_length] at hc
    refine hc.mono ?_
    rintro e w' ⟨rfl, n, os, rfl⟩
    refine ⟨rfl, ?_, grownBy_sorted _⟩
    have := ownsRow_sorted (os := os) (n := n) (ss := bytesL l) (ts := sortB l) (by rw [sortB_length, bytesL_length]) hg hh (by rw [bytesL_length]; exact h1) h2 h3
    rw [bytesL_length, enc_names] at this
    exact this
theorem compact_own (base : Nat) (v : Value) (l : List ByteArray) (w : World) (hown : w.ownsRow base 9 1 v l.length (namesV (sortL l))) (hl : l.length ≤ 1048576) :
    Calls Tryz.prog 94 #[v] w fun e w' => ∃ v', e = .returned v' ∧ w'.ownsRow base 9 1 v' (setL l).length (namesV (setL l)) ∧ w.grownBy w' v.ownBlock := by
  obtain ⟨h0, ⟨rfl, hn⟩ | ⟨g, cap, cur, rfl, hg, hh, h1, h2, h3, h4⟩⟩ := hown
  · refine (Tryz.slices_Compact_string_empty none 0 w).mono ?_
    rintro e w' ⟨rfl, rfl⟩
    have e0 : l = [] := List.length_eq_zero_iff.1 hn
    subst e0
    rw [setL_nil]
    exact ⟨_, rfl, World.ownsRow_nil _ _ _ _, World.grownBy.refl _ _⟩
  · have hs := sortB_length l
    have hH := holds_of_block (ss := sortB l) hh (by rw [hs, enc_names]; simpa [sortL] using h4)
    have hc := Tryz.slices_Compact_string g 0 cap (sortB l) w hH (by rw [hs]; omega) (by rw [hs]; exact h1)
    rw [hs] at hc
    refine hc.mono ?_
    rintro e w' ⟨rfl, n, rfl⟩
    have hle := Lib.compact_length_le (sortB l)
    have hset : (setL l).length = (Lib.compact (sortB l)).length := by simp [setL, ofB]
    refine ⟨_, rfl, ?_, grownBy_sorted (os := #[]) _⟩
    rw [hset]
    have hq := heap_sorted (os := #[]) (n := n) (Lib.compact (sortB l) ++ List.replicate (l.length - (Lib.compact (sortB l)).length) []).toArray hh
    refine ⟨by rw [namesV_length, hset]; omega, .inr ⟨g, cap, _, rfl, hg, hq, by omega, h2, by simp [putCells, h3], ?_⟩⟩
    rw [Nat.mul_one]
    have ht := take_putCells cur (Lib.compact (sortB l) ++ List.replicate (l.length - (Lib.compact (sortB l)).length) []) (by simp; omega)
    have := congrArg (List.take (Lib.compact (sortB l)).length) ht
    rw [List.take_take] at this
    rw [Nat.min_eq_left (by simp)] at this
    rw [this, List.map_append, List.take_left' (by simp)]
    exact enc_names _
end

section
open Go Go.RowKit Go.Shelf
attribute [local go_sem] Oper.semAt_some

/-- All parents that facts name, as the facts come. -/
def parentsL (fs : List Fa) (s : ByteArray) : List ByteArray := (fs.filter fun f => decide (f.kind = 1) && decide (f.a = s)).map (·.b)
theorem parentsL_succ {fs : List Fa} {k : Nat} {f : Fa} (h : fs[k]? = some f) (s : ByteArray) : parentsL (fs.take (k + 1)) s = parentsL (fs.take k) s ++ (if f.kind = 1 ∧ f.a = s then [f.b] else []) := by
  unfold parentsL
  rw [List.take_add_one, h, List.filter_append, List.map_append]
  congr 1
  by_cases e : f.kind = 1 ∧ f.a = s
  · simp [e]
  · rw [if_neg e]
    have : (decide (f.kind = 1) && decide (f.a = s)) = false := by
      rw [Bool.eq_false_iff]; intro q; simp at q; exact e q
    simp [this]
theorem parentsL_length (fs : List Fa) (s : ByteArray) (k : Nat) : (parentsL (fs.take k) s).length ≤ k := by
  unfold parentsL
  rw [List.length_map]
  exact Nat.le_trans (List.length_filter_le _ _) (by simp; omega)
/-- The parents of a person. -/
def parentsF (fs : List Fa) (s : ByteArray) : List ByteArray := setL (parentsL fs s)
set_option maxRecDepth 100000 in
set_option maxHeartbeats 4000000 in
theorem parents_any (A : Option Addr) (n c : Nat) (F : Option Addr) (m d : Nat) (ps : List ByteArray) (fs : List Fa) (s : ByteArray) (w : World) (h : NetC w A n c F m d ps fs) (hfew : fs.length ≤ 48) :
    Calls Tryz.prog 81 #[.agg #[.slice A n c, .slice F m d], .string s] w fun e w' => ∃ v, e = .returned v ∧ w'.ownsRow w.heap.size 9 1 v (parentsF fs s).length (namesV (parentsF fs s)) ∧ Below w.heap.size w w' := by
  obtain ⟨e1, e2, h1, h2, h3, h4⟩ := h.many
  subst e1
  subst e2
  have HFc := Lib.hid (fun q => h.fact q)
  have hb0 := below_alloc' w (.cells #[.slice A ps.length c, .slice F fs.length d] 25)
  have y0 := Cel.new w 25 #[.slice A ps.length c, .slice F fs.length d]
  have HB0 := Lib.hid hb0
  have z1 := y0.cell 1 _ rfl
  clear h hb0 y0
  go_enter Tryz.func81, Tryz.ntmps81
  go_wp2
  generalize w.alloc (.cells #[.slice A ps.length c, .slice F fs.length d] 25) = W at *
  clear z1
  go_loopw [5, 11] (fun v ti wr => ∃ k : Nat, ti = .int .i64 k ∧ k ≤ fs.length ∧ Hid (wr.ownsRow w.heap.size 9 1 v (parentsL (fs.take k) s).length (namesV (parentsL (fs.take k) s))) ∧ Hid (Below w.heap.size w wr)) (fun _ ti _ => fs.length - (intOf ti).toNat)
  case atStart => exact ⟨0, rfl, by omega, World.ownsRow_nil _ _ _ _, HB0.out⟩
  case round =>
    obtain ⟨k, rfl, hk, HO, HB⟩ := hrel
    by_cases hlt : k < fs.length
    · have hki : (k : Int) < (fs.length : Int) := by omega
      obtain ⟨b0, o0, rfl, hb, hce⟩ := HFc.out (by omega)
      have hfj : fs[k]? = some fs[k] := List.getElem?_eq_getElem hlt
      obtain ⟨g1, g2, g3, g4⟩ := hce k _ hfj
      replace g1 := below_cell HB.out g1
      replace g2 := below_cell HB.out g2
      replace g3 := below_cell HB.out g3
      replace g4 := below_cell HB.out g4
      have HL := Lib.hid (parentsL_succ hfj s)
      have HLen := Lib.hid (parentsL_length fs s k)
      clear hce hfj
      generalize fs[k] = f at *
      obtain ⟨q, a, b, t⟩ := f
      simp only at g1 g2 g3 g4 HL
      have HOa := Lib.hid (HO.out.alloc (.cells #[.int .i64 q, .string a, .string b, .int .i64 t] 76))
      have HBa := Lib.hid (HB.out.alloc HB.out.size (.cells #[.int .i64 q, .string a, .string b, .int .i64 t] 76))
      by_cases hq : q = 1
      · by_cases hs : a = s
        · have HL2 := Lib.hid (HL.out.trans (by rw [if_pos ⟨hq, hs⟩]))
          have heq : (a.toList == s.toList) = true := by rw [hs]; simp
          subst hq
          have HOb := Lib.hid (HOa.out.alloc (.cells #[.string b] 9))
          have HBb := Lib.hid (HBa.out.alloc HBa.out.size (.cells #[.string b] 9))
          have hS1 := Sl.new (s := 1) (wr.alloc (.cells #[.int .i64 1, .string a, .string b, .int .i64 t] 76)) 9 1 1 #[.string b] rfl (Nat.le_refl _) (by decide)
          rw [World.size_alloc] at hS1
          have HS1 := Lib.hid hS1
          clear hs hS1 HL
          go_wp2_with (at_builtin; refine appStr _ _ rfl rfl rfl rfl HOb.out HS1.out (by simp [Value.oneCell']) (N := (parentsL (fs.take k) s).length + 1) (by simp) (by have := HLen.out; omega) HBb.out.size ?_; intro A1 c1 w1 hap)
          have HB1 := Lib.hid (below_of_own hap.grown HOb.out HBb.out (Nat.le_refl _))
          have HO1 := Lib.hid hap.own
          clear hap g1 g2 g3 g4
          go_wp2
          go_roundw
          case rel => exact ⟨k + 1, by go_num, by omega, by rw [HL2.out, namesV_append, List.length_append]; exact HO1.out, HB1.out⟩
          case measure => simp [intOf]; omega
        · have HL2 := Lib.hid (HL.out.trans (by rw [if_neg (fun z => hs z.2), List.append_nil]))
          have heq : (a.toList == s.toList) = false := by rw [Bool.eq_false_iff]; intro z; exact hs ((Lib.bytes_beq_iff _ _).1 z)
          subst hq
          clear hs HL
          go_wp2
          go_roundw
          case rel => exact ⟨k + 1, by go_num, by omega, by rw [HL2.out]; exact HOa.out, HBa.out⟩
          case measure => simp [intOf]; omega
      · have HL2 := Lib.hid (HL.out.trans (by rw [if_neg (fun z => hq z.1), List.append_nil]))
        have hqf : (q == 1) = false := beq_eq_false_iff_ne.2 hq
        clear hq HL
        go_wp2
        go_roundw
        case rel => exact ⟨k + 1, by go_num, by omega, by rw [HL2.out]; exact HOa.out, HBa.out⟩
        case measure => simp [intOf]; omega
    · have HK := Lib.hid (show fs.take k = fs from List.take_of_length_le (by omega))
      have HLen := Lib.hid (parentsL_length fs s k)
      rw [HK.out] at HO HLen
      obtain ⟨A5, c5, e5, _⟩ := own_shape HO.out
      subst e5
      have HFe := Lib.hid (show (parentsL fs s).length ≤ 1048576 by have := HLen.out; omega)
      clear HLen
      go_wp2_with fail
      refine (sort_own _ _ (parentsL fs s) wr HO.out HFe.out).mono ?_
      rintro e w1 ⟨rfl, ho1, hg1⟩
      have HO1 := Lib.hid ho1
      have HB1 := Lib.hid (below_of_own hg1 HO.out HB.out (Nat.le_refl _))
      clear ho1 hg1
      go_wp2_with fail
      refine (compact_own _ _ (parentsL fs s) w1 HO1.out HFe.out).mono ?_
      rintro e w2 ⟨v2, rfl, ho2, hg2⟩
      have HO2 := Lib.hid ho2
      have HB2 := Lib.hid (below_of_own hg2 HO1.out HB1.out (Nat.le_refl _))
      clear ho2 hg2
      go_wp2
      go_ret
      exact ⟨v2, rfl, HO2.out, HB2.out⟩
/-- All children that facts name, as the facts come. -/
def childrenL (fs : List Fa) (s : ByteArray) : List ByteArray := (fs.filter fun f => decide (f.kind = 1) && decide (f.b = s)).map (·.a)
theorem childrenL_succ {fs : List Fa} {k : Nat} {f : Fa} (h : fs[k]? = some f) (s : ByteArray) : childrenL (fs.take (k + 1)) s = childrenL (fs.take k) s ++ (if f.kind = 1 ∧ f.b = s then [f.a] else []) := by
  unfold childrenL
  rw [List.take_add_one, h, List.filter_append, List.map_append]
  congr 1
  by_cases e : f.kind = 1 ∧ f.b = s
  · simp [e]
  · rw [if_neg e]
    have : (decide (f.kind = 1) && decide (f.b = s)) = false := by
      rw [Bool.eq_false_iff]; intro q; simp at q; exact e q
    simp [this]
theorem childrenL_length (fs : List Fa) (s : ByteArray) (k : Nat) : (childrenL (fs.take k) s).length ≤ k := by
  unfold childrenL
  rw [List.length_map]
  exact Nat.le_trans (List.length_filter_le _ _) (by simp; omega)
/-- The children of a person. -/
def childrenF (fs : List Fa) (s : ByteArray) : List ByteArray := setL (childrenL fs s)
set_option maxRecDepth 100000 in
set_option maxHeartbeats 4000000 in
theorem children_any (A : Option Addr) (n c : Nat) (F : Option Addr) (m d : Nat) (ps : List ByteArray) (fs : List Fa) (s : ByteArray) (w : World) (h : NetC w A n c F m d ps fs) (hfew : fs.length ≤ 48) :
    Calls Tryz.prog 60 #[.agg #[.slice A n c, .slice F m d], .string s] w fun e w' => ∃ v, e = .returned v ∧ w'.ownsRow w.heap.size 9 1 v (childrenF fs s).length (namesV (childrenF fs s)) ∧ Below w.heap.size w w' := by
  obtain ⟨e1, e2, h1, h2, h3, h4⟩ := h.many
  subst e1
  subst e2
  have HFc := Lib.hid (fun q => h.fact q)
  have hb0 := below_alloc' w (.cells #[.slice A ps.length c, .slice F fs.length d] 25)
  have y0 := Cel.new w 25 #[.slice A ps.length c, .slice F fs.length d]
  have HB0 := Lib.hid hb0
  have z1 := y0.cell 1 _ rfl
  clear h hb0 y0
  go_enter Tryz.func60, Tryz.ntmps60
  go_wp2
  generalize w.alloc (.cells #[.slice A ps.length c, .slice F fs.length d] 25) = W at *
  clear z1
  go_loopw [5, 11] (fun v ti wr => ∃ k : Nat, ti = .int .i64 k ∧ k ≤ fs.length ∧ Hid (wr.ownsRow w.heap.size 9 1 v (childrenL (fs.take k) s).length (namesV (childrenL (fs.take k) s))) ∧ Hid (Below w.heap.size w wr)) (fun _ ti _ => fs.length - (intOf ti).toNat)
  case atStart => exact ⟨0, rfl, by omega, World.ownsRow_nil _ _ _ _, HB0.out⟩
  case round =>
    obtain ⟨k, rfl, hk, HO, HB⟩ := hrel
    by_cases hlt : k < fs.length
    · have hki : (k : Int) < (fs.length : Int) := by omega
      obtain ⟨b0, o0, rfl, hb, hce⟩ := HFc.out (by omega)
      have hfj : fs[k]? = some fs[k] := List.getElem?_eq_getElem hlt
      obtain ⟨g1, g2, g3, g4⟩ := hce k _ hfj
      replace g1 := below_cell HB.out g1
      replace g2 := below_cell HB.out g2
      replace g3 := below_cell HB.out g3
      replace g4 := below_cell HB.out g4
      have HL := Lib.hid (childrenL_succ hfj s)
      have HLen := Lib.hid (childrenL_length fs s k)
      clear hce hfj
      generalize fs[k] = f at *
      obtain ⟨q, a, b, t⟩ := f
      simp only at g1 g2 g3 g4 HL
      have HOa := Lib.hid (HO.out.alloc (.cells #[.int .i64 q, .string a, .string b, .int .i64 t] 76))
      have HBa := Lib.hid (HB.out.alloc HB.out.size (.cells #[.int .i64 q, .string a, .string b, .int .i64 t] 76))
      by_cases hq : q = 1
      · by_cases hs : b = s
        · have HL2 := Lib.hid (HL.out.trans (by rw [if_pos ⟨hq, hs⟩]))
          have heq : (b.toList == s.toList) = true := by rw [hs]; simp
          subst hq
          have HOb := Lib.hid (HOa.out.alloc (.cells #[.string a] 9))
          have HBb := Lib.hid (HBa.out.alloc HBa.out.size (.cells #[.string a] 9))
          have hS1 := Sl.new (s := 1) (wr.alloc (.cells #[.int .i64 1, .string a, .string b, .int .i64 t] 76)) 9 1 1 #[.string a] rfl (Nat.le_refl _) (by decide)
          rw [World.size_alloc] at hS1
          have HS1 := Lib.hid hS1
          clear hs hS1 HL
          go_wp2_with (at_builtin; refine appStr _ _ rfl rfl rfl rfl HOb.out HS1.out (by simp [Value.oneCell']) (N := (childrenL (fs.take k) s).length + 1) (by simp) (by have := HLen.out; omega) HBb.out.size ?_; intro A1 c1 w1 hap)
          have HB1 := Lib.hid (below_of_own hap.grown HOb.out HBb.out (Nat.le_refl _))
          have HO1 := Lib.hid hap.own
          clear hap g1 g2 g3 g4
          go_wp2
          go_roundw
          case rel => exact ⟨k + 1, by go_num, by omega, by rw [HL2.out, namesV_append, List.length_append]; exact HO1.out, HB1.out⟩
          case measure => simp [intOf]; omega
        · have HL2 := Lib.hid (HL.out.trans (by rw [if_neg (fun z => hs z.2), List.append_nil]))
          have heq : (b.toList == s.toList) = false := by rw [Bool.eq_false_iff]; intro z; exact hs ((Lib.bytes_beq_iff _ _).1 z)
          subst hq
          clear hs HL
          go_wp2
          go_roundw
          case rel => exact ⟨k + 1, by go_num, by omega, by rw [HL2.out]; exact HOa.out, HBa.out⟩
          case measure => simp [intOf]; omega
      · have HL2 := Lib.hid (HL.out.trans (by rw [if_neg (fun z => hq z.1), List.append_nil]))
        have hqf : (q == 1) = false := beq_eq_false_iff_ne.2 hq
        clear hq HL
        go_wp2
        go_roundw
        case rel => exact ⟨k + 1, by go_num, by omega, by rw [HL2.out]; exact HOa.out, HBa.out⟩
        case measure => simp [intOf]; omega
    · have HK := Lib.hid (show fs.take k = fs from List.take_of_length_le (by omega))
      have HLen := Lib.hid (childrenL_length fs s k)
      rw [HK.out] at HO HLen
      obtain ⟨A5, c5, e5, _⟩ := own_shape HO.out
      subst e5
      have HFe := Lib.hid (show (childrenL fs s).length ≤ 1048576 by have := HLen.out; omega)
      clear HLen
      go_wp2_with fail
      refine (sort_own _ _ (childrenL fs s) wr HO.out HFe.out).mono ?_
      rintro e w1 ⟨rfl, ho1, hg1⟩
      have HO1 := Lib.hid ho1
      have HB1 := Lib.hid (below_of_own hg1 HO.out HB.out (Nat.le_refl _))
      clear ho1 hg1
      go_wp2_with fail
      refine (compact_own _ _ (childrenL fs s) w1 HO1.out HFe.out).mono ?_
      rintro e w2 ⟨v2, rfl, ho2, hg2⟩
      have HO2 := Lib.hid ho2
      have HB2 := Lib.hid (below_of_own hg2 HO1.out HB1.out (Nat.le_refl _))
      clear ho2 hg2
      go_wp2
      go_ret
      exact ⟨v2, rfl, HO2.out, HB2.out⟩
end
end Go.Proofs.YtdmcopjbckelmaaGreatDoor
