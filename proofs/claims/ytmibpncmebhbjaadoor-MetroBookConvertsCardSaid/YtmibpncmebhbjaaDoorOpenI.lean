/- Arguments opened: ladders and bridges, names and amounts, together. -/
import Derived.Test.YtmibpncmebhbjaaDoorOpenL
import Derived.Test.YtmibpncmebhbjaaDoorP5
import Derived.Test.YtmibpncmebhbjaaDoorP9
namespace Go.Proofs.YtmibpncmebhbjaaDoor
open Go Go.ChangeShapes Go.WideShapes Go.RowKit

theorem ladCells_cells {ps : List (La × Value)} {j : Nat} {u : Value} (h : (ladCells ps)[j]? = some u) : ∃ i, ∃ hi : i < ps.length, (j = i * 2 ∧ u = .string ps[i].1.nm) ∨ (j = i * 2 + 1 ∧ u = ps[i].2) := by
  have hj : j < (ladCells ps).length := by
    rcases Nat.lt_or_ge j (ladCells ps).length with h' | h'
    · exact h'
    · rw [List.getElem?_eq_none h'] at h; cases h
  rw [ladCells_length] at hj
  have hi : j / 2 < ps.length := by omega
  refine ⟨j / 2, hi, ?_⟩
  obtain ⟨g0, g1⟩ := ladCells_get hi
  rcases Nat.mod_two_eq_zero_or_one j with h2 | h2
  · left
    have e : j = j / 2 * 2 := by omega
    rw [← e, h] at g0
    injection g0 with g0
    exact ⟨e, g0⟩
  · right
    have e : j = j / 2 * 2 + 1 := by omega
    rw [← e, h] at g1
    injection g1 with g1
    exact ⟨e, g1⟩
theorem brsV_cells {us : List Br} {j : Nat} {u : Value} (h : (brsV us)[j]? = some u) : ∃ i, ∃ hi : i < us.length, ∃ t, t < 6 ∧ j = i * 6 + t ∧ (brV us[i])[t]? = some u := by
  have hj : j < (brsV us).length := by
    rcases Nat.lt_or_ge j (brsV us).length with h' | h'
    · exact h'
    · rw [List.getElem?_eq_none h'] at h; cases h
  rw [brsV_length] at hj
  have hi : j / 6 < us.length := by omega
  have e : j = j / 6 * 6 + j % 6 := by omega
  refine ⟨j / 6, hi, j % 6, by omega, e, ?_⟩
  rw [← brsV_get hi (j % 6) (by omega), ← e]
  exact h
/-- Amounts as cells. -/
def amtsV (l : List (ByteArray × Int)) : List Value := l.flatMap fun a => [.string a.1, .int .i64 a.2]
theorem amtsV_length (l : List (ByteArray × Int)) : (amtsV l).length = l.length * 2 := by
  induction l with
  | nil => rfl
  | cons u us ih => simp only [amtsV, List.flatMap_cons, List.length_append] at ih ⊢; rw [ih]; simp; omega
theorem amtsV_get {l : List (ByteArray × Int)} {k : Nat} (hk : k < l.length) : (amtsV l)[k * 2]? = some (.string l[k].1) ∧ (amtsV l)[k * 2 + 1]? = some (.int .i64 l[k].2) := by
  induction l generalizing k with
  | nil => simp at hk
  | cons u us ih =>
    have e : amtsV (u :: us) = .string u.1 :: .int .i64 u.2 :: amtsV us := rfl
    cases k with
    | zero => rw [e]; simp
    | succ k =>
      have := ih (k := k) (by simpa using hk)
      rw [e, show (k + 1) * 2 = k * 2 + 1 + 1 from by omega]
      simpa using this
theorem amtsV_cells {us : List (ByteArray × Int)} {j : Nat} {u : Value} (h : (amtsV us)[j]? = some u) : ∃ i, ∃ hi : i < us.length, (j = i * 2 ∧ u = .string us[i].1) ∨ (j = i * 2 + 1 ∧ u = .int .i64 us[i].2) := by
  have hj : j < (amtsV us).length := by
    rcases Nat.lt_or_ge j (amtsV us).length with h' | h'
    · exact h'
    · rw [List.getElem?_eq_none h'] at h; cases h
  rw [amtsV_length] at hj
  have hi : j / 2 < us.length := by omega
  refine ⟨j / 2, hi, ?_⟩
  obtain ⟨g0, g1⟩ := amtsV_get hi
  rcases Nat.mod_two_eq_zero_or_one j with h2 | h2
  · left
    have e : j = j / 2 * 2 := by omega
    rw [← e, h] at g0
    injection g0 with g0
    exact ⟨e, g0⟩
  · right
    have e : j = j / 2 * 2 + 1 := by omega
    rw [← e, h] at g1
    injection g1 with g1
    exact ⟨e, g1⟩
instance : Inhabited La := ⟨⟨⟨#[]⟩, [], by decide⟩⟩
instance : Inhabited Br := ⟨mkBr ⟨#[]⟩ ⟨#[]⟩ ⟨#[]⟩ ⟨#[]⟩ 1 1⟩
section
variable {H : Type} {enc : TypeId × Value → H} {W : World} {sp : Nat → Bool} {base : Nat} {held : Bool}
/-- A slice of units, opened. -/
theorem open_unitsT {fuel : Nat} {v : Value} {x : DataW H × List MemPlace} (h : DataW.trod enc Tryd.prog W base sp held fuel 31 [v] = some x) : ∃ us : List Un, Sl W 2 v (unitsV us) := by
  have c0 : Tryd.prog.cellsOf 9 = 1 := by kernel_rfl
  have c2 : Tryd.prog.cellsOf 3 = 1 := by kernel_rfl
  have cu : Tryd.prog.cellsOf 78 = 2 := by kernel_rfl
  rcases Go.Deep.open_slice_pairs Tryd.underlying31 Tryd.underlying78 cu rfl rfl c0 c2 h with ⟨e1, x1⟩ | ⟨a, len, cap, m, n', V0, V1, D0, D1, P0, P1, e1, hb, hlc, hcm, hm, x1, hi⟩
  · simp at e1
    subst e1
    exact ⟨[], Sl.nil0 _ _⟩
  · simp at e1
    subst e1
    have hlm : len ≤ m := by rw [hm]; split <;> omega
    have each : ∀ i, i < len → ∃ u : Un, V0 i = .string u.sign ∧ V1 i = .int .i64 u.factor := by
      intro i hil
      obtain ⟨_, _, g0, g1⟩ := hi i (by omega)
      obtain ⟨s', q0, _, hs'⟩ := DataW.trod_string Tryd.underlying9 g0
      obtain ⟨f', q1, _, hf'⟩ := DataW.trod_int Tryd.underlying3 g1
      simp only [List.cons.injEq, and_true] at q0 q1
      refine ⟨⟨s', f', by unfold maxLen at hs'; omega, ?_⟩, q0, q1⟩
      simp only [Lit.wf, Bool.and_eq_true, decide_eq_true_eq] at hf'
      exact hf'
    obtain ⟨U, hU⟩ := Go.Deep.choose_lt each
    refine ⟨(List.range len).map U, some a, len, cap, rfl, by rw [unitsV_length]; simp, hlc, by unfold maxLen at hcm; omega, fun _ => ⟨a, rfl, fun j u hj => ?_⟩⟩
    obtain ⟨i, hil, hc⟩ := unitsV_cells hj
    simp only [List.length_map, List.length_range] at hil
    obtain ⟨k0, k1, _, _⟩ := hi i (by omega)
    obtain ⟨u0, u1⟩ := hU i hil
    simp only [List.getElem_map, List.getElem_range] at hc
    rcases hc with ⟨rfl, rfl⟩ | ⟨rfl, rfl⟩
    · rw [k0, u0]
    · rw [k1, u1]
/-- A slice of ladders, opened. -/
theorem open_ladsT {fuel : Nat} {v : Value} {x : DataW H × List MemPlace} (h : DataW.trod enc Tryd.prog W base sp held fuel 42 [v] = some x) : ∃ ls : List La, LadsV W v ls := by
  have c0 : Tryd.prog.cellsOf 9 = 1 := by kernel_rfl
  have c1 : Tryd.prog.cellsOf 31 = 1 := by kernel_rfl
  have cL : Tryd.prog.cellsOf 33 = 2 := by kernel_rfl
  rcases Go.Deep.open_slice Tryd.underlying42 h with ⟨e1, x1⟩ | ⟨a, len, cap, m, n', D, Pl, e1, hb, hlc, hcm, hm, x1, hi⟩
  · simp at e1
    subst e1
    exact ⟨[], [], rfl, Sl.nil0 _ _, fun _ h => absurd h List.not_mem_nil⟩
  · simp at e1
    subst e1
    have hlm : len ≤ m := by rw [hm]; split <;> omega
    rw [cL] at hi
    have each : ∀ i, i < len → ∃ p : La × Value, W.cell? (a.add (i * 2)) = some (.string p.1.nm) ∧ W.cell? (a.add (i * 2 + 1)) = some p.2 ∧ Sl W 2 p.2 (unitsV p.1.us) := by
      intro i hil
      obtain ⟨cs', g1, g2⟩ := hi i (by omega)
      obtain ⟨_, hlen, hcell⟩ := World.cells?_some g1
      obtain ⟨y0, y1, n, hx, hl, h0, h1⟩ := trod_struct2 Tryd.underlying33 g2
      simp only [c0, c1] at h0 h1
      match cs', hlen with
      | [v0, v1], _ =>
        simp at h0 h1
        obtain ⟨s, e0, _, hs⟩ := DataW.trod_string Tryd.underlying9 h0
        simp only [List.cons.injEq, and_true] at e0
        subst e0
        obtain ⟨us, hus⟩ := open_unitsT h1
        have q0 := hcell 0 (by decide)
        have q1 := hcell 1 (by decide)
        rw [add_add] at q0 q1
        exact ⟨(⟨s, us, by unfold maxLen at hs; omega⟩, v1), q0, q1, hus⟩
    obtain ⟨U, hU⟩ := Go.Deep.choose_lt each
    refine ⟨((List.range len).map U).map (·.1), (List.range len).map U, rfl, ⟨some a, len, cap, rfl, by rw [ladCells_length]; simp, hlc, by unfold maxLen at hcm; omega, fun _ => ⟨a, rfl, fun j u hj => ?_⟩⟩, fun p hp => ?_⟩
    · obtain ⟨i, hil, hc⟩ := ladCells_cells hj
      simp only [List.length_map, List.length_range] at hil
      obtain ⟨u0, u1, _⟩ := hU i hil
      simp only [List.getElem_map, List.getElem_range] at hc
      rcases hc with ⟨rfl, rfl⟩ | ⟨rfl, rfl⟩
      · exact u0
      · exact u1
    · obtain ⟨i, hi', rfl⟩ := List.mem_map.1 hp
      exact (hU i (List.mem_range.1 hi')).2.2
/-- A slice of strings, opened. -/
theorem open_strsT {fuel : Nat} {v : Value} {x : DataW H × List MemPlace} (h : DataW.trod enc Tryd.prog W base sp held fuel 57 [v] = some x) : ∃ ns : List ByteArray, Sl W 1 v (namesV ns) ∧ ∀ s ∈ ns, (s.size : Int) ≤ 9223372036854775807 := by
  have c0 : Tryd.prog.cellsOf 9 = 1 := by kernel_rfl
  rcases Go.Deep.open_slice1 Tryd.underlying57 c0 h with ⟨e1, x1⟩ | ⟨a, len, cap, m, n', V, D, Pl, e1, hb, hlc, hcm, hm, x1, hi⟩
  · simp at e1
    subst e1
    exact ⟨[], Sl.nil0 _ _, by simp⟩
  · simp at e1
    subst e1
    have hlm : len ≤ m := by rw [hm]; split <;> omega
    have each : ∀ i, i < len → ∃ s : ByteArray, V i = .string s ∧ (s.size : Int) ≤ 9223372036854775807 := by
      intro i hil
      obtain ⟨_, g1⟩ := hi i (by omega)
      obtain ⟨s, q1, _, hs⟩ := DataW.trod_string Tryd.underlying9 g1
      simp only [List.cons.injEq, and_true] at q1
      exact ⟨s, q1, by unfold maxLen at hs; omega⟩
    haveI : Inhabited ByteArray := ⟨⟨#[]⟩⟩
    obtain ⟨U, hU⟩ := Go.Deep.choose_lt each
    refine ⟨(List.range len).map U, ⟨some a, len, cap, rfl, by simp [namesV], hlc, by unfold maxLen at hcm; omega, fun _ => ⟨a, rfl, fun j u hj => ?_⟩⟩, fun s hs => ?_⟩
    · have hjn : j < len := by
        rcases Nat.lt_or_ge j len with h' | h'
        · exact h'
        · rw [List.getElem?_eq_none (by simpa [namesV] using h')] at hj; cases hj
      simp only [namesV, List.getElem?_map, List.getElem?_range hjn, Option.map_some, Option.some.injEq] at hj
      rw [(hi j (by omega)).1, (hU j hjn).1, ← hj]
    · obtain ⟨i, hi', rfl⟩ := List.mem_map.1 hs
      exact (hU i (List.mem_range.1 hi')).2
set_option maxRecDepth 20000 in
/-- A slice of bridges, opened. -/
theorem open_brisT {fuel : Nat} {v : Value} {x : DataW H × List MemPlace} (h : DataW.trod enc Tryd.prog W base sp held fuel 43 [v] = some x) : ∃ bs : List Br, Sl W 6 v (brsV bs) := by
  have c0 : Tryd.prog.cellsOf 9 = 1 := by kernel_rfl
  have c2 : Tryd.prog.cellsOf 3 = 1 := by kernel_rfl
  have cR : Tryd.prog.cellsOf 23 = 2 := by kernel_rfl
  have cB : Tryd.prog.cellsOf 83 = 6 := by kernel_rfl
  rcases Go.Deep.open_slice Tryd.underlying43 h with ⟨e1, x1⟩ | ⟨a, len, cap, m, n', D, Pl, e1, hb, hlc, hcm, hm, x1, hi⟩
  · simp at e1
    subst e1
    exact ⟨[], Sl.nil0 _ _⟩
  · simp at e1
    subst e1
    have hlm : len ≤ m := by rw [hm]; split <;> omega
    rw [cB] at hi
    have each : ∀ i, i < len → ∃ b : Br, ∀ t, t < 6 → W.cell? (a.add (i * 6 + t)) = (brV b)[t]? := by
      intro i hil
      obtain ⟨cs', g1, g2⟩ := hi i (by omega)
      obtain ⟨_, hlen, hcell⟩ := World.cells?_some g1
      obtain ⟨xs, k, _, _, _, hxl, hx⟩ := DataW.trod_struct Tryd.underlying83 g2
      have h0 := hx 0 _ rfl
      have h1 := hx 1 _ rfl
      have h2 := hx 2 _ rfl
      have h3 := hx 3 _ rfl
      have h4 := hx 4 _ rfl
      match cs', hlen, xs, hxl with
      | [v0, v1, v2, v3, v4, v5], _, [x0, x1, x2, x3, x4], _ =>
        simp [c0, cR] at h0 h1 h2 h3 h4
        obtain ⟨s0, e0, _, w0⟩ := DataW.trod_string Tryd.underlying9 h0
        obtain ⟨s1, e1, _, w1⟩ := DataW.trod_string Tryd.underlying9 h1
        obtain ⟨s2, e2, _, w2⟩ := DataW.trod_string Tryd.underlying9 h2
        obtain ⟨s3, e3, _, w3⟩ := DataW.trod_string Tryd.underlying9 h3
        obtain ⟨y0, y1, n, _, _, r0, r1⟩ := trod_struct2 Tryd.underlying23 h4
        simp [c2] at r0 r1
        obtain ⟨f0, q0, _, z0⟩ := DataW.trod_int Tryd.underlying3 r0
        obtain ⟨f1, q1, _, z1⟩ := DataW.trod_int Tryd.underlying3 r1
        simp only [List.cons.injEq, and_true] at e0 e1 e2 e3 q0 q1
        subst e0 e1 e2 e3 q0 q1
        simp only [Lit.wf, Bool.and_eq_true, decide_eq_true_eq] at z0 z1
        refine ⟨⟨s0, s1, s2, s3, f0, f1, z0, z1⟩, fun t ht => ?_⟩
        have q := hcell t ht
        rw [add_add] at q
        exact q
    obtain ⟨U, hU⟩ := Go.Deep.choose_lt each
    refine ⟨(List.range len).map U, some a, len, cap, rfl, by rw [brsV_length]; simp, hlc, by unfold maxLen at hcm; omega, fun _ => ⟨a, rfl, fun j u hj => ?_⟩⟩
    obtain ⟨i, hil, t, ht, rfl, hc⟩ := brsV_cells hj
    simp only [List.length_map, List.length_range] at hil
    rw [hU i hil t ht]
    simpa using hc
/-- A slice of amounts, opened. -/
theorem open_amtsT {fuel : Nat} {v : Value} {x : DataW H × List MemPlace} (h : DataW.trod enc Tryd.prog W base sp held fuel 58 [v] = some x) : ∃ l : List (ByteArray × Int), Sl W 2 v (amtsV l) ∧ ∀ a ∈ l, Bd a.2 := by
  have c0 : Tryd.prog.cellsOf 9 = 1 := by kernel_rfl
  have c2 : Tryd.prog.cellsOf 3 = 1 := by kernel_rfl
  have cu : Tryd.prog.cellsOf 51 = 2 := by kernel_rfl
  rcases Go.Deep.open_slice_pairs Tryd.underlying58 Tryd.underlying51 cu rfl rfl c0 c2 h with ⟨e1, x1⟩ | ⟨a, len, cap, m, n', V0, V1, D0, D1, P0, P1, e1, hb, hlc, hcm, hm, x1, hi⟩
  · simp at e1
    subst e1
    exact ⟨[], Sl.nil0 _ _, by simp⟩
  · simp at e1
    subst e1
    have hlm : len ≤ m := by rw [hm]; split <;> omega
    have each : ∀ i, i < len → ∃ u : ByteArray × Int, V0 i = .string u.1 ∧ V1 i = .int .i64 u.2 ∧ Bd u.2 := by
      intro i hil
      obtain ⟨_, _, g0, g1⟩ := hi i (by omega)
      obtain ⟨s', q0, _, _⟩ := DataW.trod_string Tryd.underlying9 g0
      obtain ⟨f', q1, _, hf'⟩ := DataW.trod_int Tryd.underlying3 g1
      simp only [List.cons.injEq, and_true] at q0 q1
      simp only [Lit.wf, Bool.and_eq_true, decide_eq_true_eq] at hf'
      exact ⟨(s', f'), q0, q1, hf'⟩
    haveI : Inhabited (ByteArray × Int) := ⟨(⟨#[]⟩, 0)⟩
    obtain ⟨U, hU⟩ := Go.Deep.choose_lt each
    refine ⟨(List.range len).map U, ⟨some a, len, cap, rfl, by rw [amtsV_length]; simp, hlc, by unfold maxLen at hcm; omega, fun _ => ⟨a, rfl, fun j u hj => ?_⟩⟩, fun p hp => ?_⟩
    · obtain ⟨i, hil, hc⟩ := amtsV_cells hj
      simp only [List.length_map, List.length_range] at hil
      obtain ⟨k0, k1, _, _⟩ := hi i (by omega)
      obtain ⟨u0, u1, _⟩ := hU i hil
      simp only [List.getElem_map, List.getElem_range] at hc
      rcases hc with ⟨rfl, rfl⟩ | ⟨rfl, rfl⟩
      · rw [k0, u0]
      · rw [k1, u1]
    · obtain ⟨i, hi', rfl⟩ := List.mem_map.1 hp
      exact (hU i (List.mem_range.1 hi')).2.2
end
set_option maxRecDepth 20000 in
theorem open_in {H : Type} {enc : TypeId × Value → H} {W : World} {b0 : Nat} {r : Reach} {v : Value} {d : DataW H} {ps : List MemPlace} {sp : Nat → Bool} {base : Nat} {held : Bool} (hval : Value.okWide Tryd.prog W r b0 60 v)
    (h : DataW.Trod enc Tryd.prog W base sp held 60 v d ps) :
    ∃ (vl vb vn va : Value) (ls : List La) (bs : List Br) (ns : List ByteArray) (ams : List (ByteArray × Int)), v = .agg #[vl, vb, vn, va] ∧ LadsV W vl ls ∧ Sl W 6 vb (brsV bs) ∧ Sl W 1 vn (namesV ns) ∧ (∀ s ∈ ns, (s.size : Int) ≤ 9223372036854775807) ∧ Sl W 2 va (amtsV ams) ∧ (∀ a ∈ ams, Bd a.2) := by
  obtain ⟨cs, rfl, hsz⟩ := okWide_struct Tryd.underlying60 hval
  obtain ⟨fuel, hf⟩ := h
  have c0 : Tryd.prog.cellsOf 42 = 1 := by kernel_rfl
  have c1 : Tryd.prog.cellsOf 43 = 1 := by kernel_rfl
  have c2 : Tryd.prog.cellsOf 57 = 1 := by kernel_rfl
  have c3 : Tryd.prog.cellsOf 58 = 1 := by kernel_rfl
  have cI : Tryd.prog.cellsOf 60 = 4 := by kernel_rfl
  rw [cI] at hsz
  obtain ⟨xs, k, _, _, _, hxl, hx⟩ := DataW.trod_struct Tryd.underlying60 hf
  have h0 := hx 0 _ rfl
  have h1 := hx 1 _ rfl
  have h2 := hx 2 _ rfl
  have h3 := hx 3 _ rfl
  obtain ⟨cl⟩ := cs
  match cl, hsz, xs, hxl with
  | [v0, v1, v2, v3], _, [x0, x1, x2, x3], _ =>
    simp [Value.cells, c0, c1, c2, c3] at h0 h1 h2 h3
    obtain ⟨ls, hls⟩ := open_ladsT h0
    obtain ⟨bs, hbs⟩ := open_brisT h1
    obtain ⟨ns, hns, hns2⟩ := open_strsT h2
    obtain ⟨ams, has, has2⟩ := open_amtsT h3
    exact ⟨v0, v1, v2, v3, ls, bs, ns, ams, rfl, hls, hbs, hns, hns2, has, has2⟩
end Go.Proofs.YtmibpncmebhbjaaDoor
