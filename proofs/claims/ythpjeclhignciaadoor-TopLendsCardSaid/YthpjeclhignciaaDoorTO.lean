/- Arguments opened: a calendar, a loan, three ints. -/
import Derived.Test.YthpjeclhignciaaDoorT8
import Derived.ChangeMaps5
import Derived.Deep.SlicePairs
import Derived.Deep.Slices
import Derived.Deep.Strs
import Derived.ChangeSlices
import Derived.OpenShut
namespace Go.Proofs.YthpjeclhignciaaDoor
open Go Go.ChangeShapes Go.WideShapes Go.RowKit

theorem yearsV_cells {us : List Yr} {j : Nat} {u : Value} (h : (yearsV us)[j]? = some u) : ∃ i, ∃ hi : i < us.length, ∃ t, t < 4 ∧ j = i * 4 + t ∧ (yrV us[i])[t]? = some u := by
  have hj : j < (yearsV us).length := by
    rcases Nat.lt_or_ge j (yearsV us).length with h' | h'
    · exact h'
    · rw [List.getElem?_eq_none h'] at h; cases h
  rw [yearsV_length] at hj
  have hi : j / 4 < us.length := by omega
  have e : j = j / 4 * 4 + j % 4 := by omega
  refine ⟨j / 4, hi, j % 4, by omega, e, ?_⟩
  obtain ⟨g0, g1, g2, g3⟩ := yearsV_get hi
  have hr : j % 4 = 0 ∨ j % 4 = 1 ∨ j % 4 = 2 ∨ j % 4 = 3 := by omega
  rcases hr with e4 | e4 | e4 | e4
  · rw [e, e4, Nat.add_zero, g0] at h; rw [e4]; exact h
  · rw [e, e4, g1] at h; rw [e4]; exact h
  · rw [e, e4, g2] at h; rw [e4]; exact h
  · rw [e, e4, g3] at h; rw [e4]; exact h
instance : Inhabited Yr := ⟨⟨0, ⟨#[]⟩, 0, 0⟩⟩
section
variable {H : Type} {enc : TypeId × Value → H} {W : World} {sp : Nat → Bool} {base : Nat} {held : Bool}
set_option maxRecDepth 20000 in
/-- A slice of strings, opened. -/
theorem open_strsT {fuel : Nat} {v : Value} {x : DataW H × List MemPlace} (h : DataW.trod enc Tryd.prog W base sp held fuel 22 [v] = some x) : ∃ ns : List ByteArray, Sl W 1 v (ns.map Value.string) ∧ ∀ s ∈ ns, (s.size : Int) ≤ 9223372036854775807 := by
  have c0 : Tryd.prog.cellsOf 9 = 1 := by kernel_rfl
  rcases Go.Deep.open_slice1 Tryd.underlying22 c0 h with ⟨e1, x1⟩ | ⟨a, len, cap, m, n', V, D, Pl, e1, hb, hlc, hcm, hm, x1, hi⟩
  · simp at e1
    subst e1
    exact ⟨[], Sl.nil0 _ _, by simp⟩
  · simp at e1
    subst e1
    have hlm : len ≤ m := by rw [hm]; split <;> omega
    have each : ∀ i, i < len → ∃ s : ByteArray, V i = .string s ∧ (s.size : Int) ≤ 9223372036854775807 := by
      intro i hil
      obtain ⟨_, g1⟩ := hi i (by omega)
      obtain ⟨s, q1, _, hs⟩ := DataW.trod_string Tryd.underlying9 g1
      simp only [List.cons.injEq, and_true] at q1
      exact ⟨s, q1, by unfold maxLen at hs; omega⟩
    haveI : Inhabited ByteArray := ⟨⟨#[]⟩⟩
    obtain ⟨U, hU⟩ := Go.Deep.choose_lt each
    refine ⟨(List.range len).map U, ⟨some a, len, cap, rfl, by simp, hlc, by unfold maxLen at hcm; omega, fun _ => ⟨a, rfl, fun j u hj => ?_⟩⟩, fun s hs => ?_⟩
    · have hjn : j < len := by
        rcases Nat.lt_or_ge j len with h' | h'
        · exact h'
        · rw [List.getElem?_eq_none (by simpa using h')] at hj; cases hj
      simp only [List.getElem?_map, List.getElem?_range hjn, Option.map_some, Option.some.injEq] at hj
      rw [(hi j (by omega)).1, (hU j hjn).1, ← hj]
    · obtain ⟨i, hi', rfl⟩ := List.mem_map.1 hs
      exact (hU i (List.mem_range.1 hi')).2
set_option maxRecDepth 20000 in
/-- A slice of years, opened. -/
theorem open_yearsT {fuel : Nat} {v : Value} {x : DataW H × List MemPlace} (h : DataW.trod enc Tryd.prog W base sp held fuel 23 [v] = some x) : ∃ ys : List Yr, Sl W 4 v (yearsV ys) ∧ ∀ y ∈ ys, YB y := by
  have c2 : Tryd.prog.cellsOf 3 = 1 := by kernel_rfl
  have cs : Tryd.prog.cellsOf 9 = 1 := by kernel_rfl
  have cu : Tryd.prog.cellsOf 51 = 4 := by kernel_rfl
  rcases Go.Deep.open_slice Tryd.underlying23 h with ⟨e1, x1⟩ | ⟨a, n, c, m, n', D, Pl, e1, hb, hlc, hcm, hm, x1, hi⟩
  · simp at e1
    subst e1
    exact ⟨[], Sl.nil0 _ _, by simp⟩
  · simp at e1
    subst e1
    have hlm : n ≤ m := by rw [hm]; split <;> omega
    rw [cu] at hi
    have each : ∀ i, i < n → ∃ u : Yr, (∀ t, t < 4 → W.cell? (a.add (i * 4 + t)) = (yrV u)[t]?) ∧ YB u := by
      intro i hil
      obtain ⟨cs', g1, g2⟩ := hi i (by omega)
      obtain ⟨_, hlen, hcell⟩ := World.cells?_some g1
      obtain ⟨xs, k, _, _, _, hxl, hx⟩ := DataW.trod_struct Tryd.underlying51 g2
      have h0 := hx 0 _ rfl
      have h1 := hx 1 _ rfl
      have h2 := hx 2 _ rfl
      have h3 := hx 3 _ rfl
      match cs', hlen, xs, hxl with
      | [v0, v1, v2, v3], _, [x0, x1, x2, x3], _ =>
        simp [c2, cs] at h0 h1 h2 h3
        obtain ⟨f0, e0, _, w0⟩ := DataW.trod_int Tryd.underlying3 h0
        obtain ⟨f1, e1, _, w1⟩ := DataW.trod_string Tryd.underlying9 h1
        obtain ⟨f2, e2, _, w2⟩ := DataW.trod_int Tryd.underlying3 h2
        obtain ⟨f3, e3, _, w3⟩ := DataW.trod_int Tryd.underlying3 h3
        simp only [List.cons.injEq, and_true] at e0 e1 e2 e3
        subst e0 e1 e2 e3
        simp only [Lit.wf, Bool.and_eq_true, decide_eq_true_eq] at w0 w2 w3
        refine ⟨⟨f0, f1, f2, f3⟩, fun t ht => ?_, w0, by show (f1.size : Int) ≤ _; unfold maxLen at w1; omega, w2, w3⟩
        have q := hcell t ht
        rw [add_add] at q
        exact q
    obtain ⟨U, hU⟩ := Go.Deep.choose_lt each
    refine ⟨(List.range n).map U, ⟨some a, n, c, rfl, by rw [yearsV_length]; simp, hlc, by unfold maxLen at hcm; omega, fun _ => ⟨a, rfl, fun j u hj => ?_⟩⟩, fun f hf => ?_⟩
    · obtain ⟨i, hil, t, ht, rfl, hc⟩ := yearsV_cells hj
      simp only [List.length_map, List.length_range] at hil
      rw [(hU i hil).1 t ht]
      simpa using hc
    · obtain ⟨i, hi', rfl⟩ := List.mem_map.1 hf
      exact (hU i (List.mem_range.1 hi')).2
end
set_option maxRecDepth 20000 in
theorem open_cal {H : Type} {enc : TypeId × Value → H} {W : World} {b0 : Nat} {r : Reach} {v : Value} {d : DataW H} {ps : List MemPlace} {sp : Nat → Bool} {base : Nat} {held : Bool} (hval : Value.okWide Tryd.prog W r b0 25 v)
    (h : DataW.Trod enc Tryd.prog W base sp held 25 v d ps) :
    ∃ Ak nk ck Ay ny cy ks ys, v = .agg #[.slice Ak nk ck, .slice Ay ny cy] ∧ CalW W (.agg #[.slice Ak nk ck, .slice Ay ny cy]) ks ys := by
  obtain ⟨cs, rfl, hsz⟩ := okWide_struct Tryd.underlying25 hval
  obtain ⟨fuel, hf⟩ := h
  obtain ⟨y0, y1, n, hx, hl, h0, h1⟩ := trod_struct2 Tryd.underlying25 hf
  have c0 : Tryd.prog.cellsOf 22 = 1 := by kernel_rfl
  have c1 : Tryd.prog.cellsOf 23 = 1 := by kernel_rfl
  have cL : Tryd.prog.cellsOf 25 = 2 := by kernel_rfl
  rw [cL] at hsz
  simp only [c0, c1] at h0 h1
  obtain ⟨cl⟩ := cs
  match cl, hsz with
  | [v0, v1], _ =>
    simp [Value.cells] at h0 h1
    obtain ⟨ks, k1, k2⟩ := open_strsT h0
    obtain ⟨ys, q1, q2⟩ := open_yearsT h1
    obtain ⟨Ak, nk, ck, rfl, _⟩ := id k1
    obtain ⟨Ay, ny, cy, rfl, _⟩ := id q1
    exact ⟨Ak, nk, ck, Ay, ny, cy, ks, ys, rfl, ⟨Ak, nk, ck, Ay, ny, cy, rfl, k1, q1⟩, k2, q2⟩
set_option maxRecDepth 20000 in
theorem open_ratT {H : Type} {enc : TypeId × Value → H} {W : World} {sp : Nat → Bool} {base : Nat} {held : Bool} {fuel : Nat} {v0 v1 : Value} {x : DataW H × List MemPlace} (hf : DataW.trod enc Tryd.prog W base sp held fuel 27 [v0, v1] = some x) : ∃ m k : Int, v0 = .int .i64 m ∧ v1 = .int .i64 k ∧ Bd m ∧ Bd k := by
  obtain ⟨y0, y1, n, hx, hl, h0, h1⟩ := trod_struct2 Tryd.underlying27 hf
  have c2 : Tryd.prog.cellsOf 3 = 1 := by kernel_rfl
  simp [c2] at h0 h1
  obtain ⟨n0, e0, _, w0⟩ := DataW.trod_int Tryd.underlying3 h0
  obtain ⟨n1, e1, _, w1⟩ := DataW.trod_int Tryd.underlying3 h1
  simp only [List.cons.injEq, and_true] at e0 e1
  simp only [Lit.wf, Bool.and_eq_true, decide_eq_true_eq] at w0 w1
  exact ⟨n0, n1, e0, e1, w0, w1⟩
set_option maxRecDepth 20000 in
theorem open_dateT {H : Type} {enc : TypeId × Value → H} {W : World} {sp : Nat → Bool} {base : Nat} {held : Bool} {fuel : Nat} {v0 v1 v2 v3 : Value} {x : DataW H × List MemPlace} (hf : DataW.trod enc Tryd.prog W base sp held fuel 29 [v0, v1, v2, v3] = some x) : ∃ (y m : Int) (s : Bool) (k : Int), v0 = .int .i64 y ∧ v1 = .int .i64 m ∧ v2 = .bool s ∧ v3 = .int .i64 k := by
  obtain ⟨xs, k, _, _, _, hxl, hx⟩ := DataW.trod_struct Tryd.underlying29 hf
  have c2 : Tryd.prog.cellsOf 3 = 1 := by kernel_rfl
  have cb : Tryd.prog.cellsOf 4 = 1 := by kernel_rfl
  have h0 := hx 0 _ rfl
  have h1 := hx 1 _ rfl
  have h2 := hx 2 _ rfl
  have h3 := hx 3 _ rfl
  match xs, hxl with
  | [x0, x1, x2, x3], _ =>
    simp [c2, cb] at h0 h1 h2 h3
    obtain ⟨n0, e0, _⟩ := DataW.trod_int Tryd.underlying3 h0
    obtain ⟨n1, e1, _⟩ := DataW.trod_int Tryd.underlying3 h1
    obtain ⟨n2, e2, _⟩ := DataW.trod_bool Tryd.underlying4 h2
    obtain ⟨n3, e3, _⟩ := DataW.trod_int Tryd.underlying3 h3
    simp only [List.cons.injEq, and_true] at e0 e1 e2 e3
    exact ⟨n0, n1, n2, n3, e0, e1, e2, e3⟩
set_option maxRecDepth 20000 in
theorem open_loan {H : Type} {enc : TypeId × Value → H} {W : World} {b0 : Nat} {r : Reach} {v : Value} {d : DataW H} {ps : List MemPlace} {sp : Nat → Bool} {base : Nat} {held : Bool} (hval : Value.okWide Tryd.prog W r b0 31 v)
    (h : DataW.Trod enc Tryd.prog W base sp held 31 v d ps) :
    ∃ (PN PD RN RD FY FM FD : Int) (FS : Bool), v = .agg #[.int .i64 PN, .int .i64 PD, .int .i64 RN, .int .i64 RD, .int .i64 FY, .int .i64 FM, .bool FS, .int .i64 FD] ∧ Bd PN ∧ Bd PD ∧ Bd RN ∧ Bd RD := by
  obtain ⟨cs, rfl, hsz⟩ := okWide_struct Tryd.underlying31 hval
  obtain ⟨fuel, hf⟩ := h
  obtain ⟨y0, y1, y2, n, hx, hl, h0, h1, h2⟩ := Go.Deep.trod_struct3 Tryd.underlying31 hf
  have c0 : Tryd.prog.cellsOf 27 = 2 := by kernel_rfl
  have c1 : Tryd.prog.cellsOf 29 = 4 := by kernel_rfl
  have cL : Tryd.prog.cellsOf 31 = 8 := by kernel_rfl
  rw [cL] at hsz
  simp only [c0, c1] at h0 h1 h2
  obtain ⟨cl⟩ := cs
  match cl, hsz with
  | [v0, v1, v2, v3, v4, v5, v6, v7], _ =>
    simp [Value.cells] at h0 h1 h2
    obtain ⟨PN, PD, rfl, rfl, p1, p2⟩ := open_ratT h0
    obtain ⟨RN, RD, rfl, rfl, r1, r2⟩ := open_ratT h1
    obtain ⟨FY, FM, FS, FD, rfl, rfl, rfl, rfl⟩ := open_dateT h2
    exact ⟨PN, PD, RN, RD, FY, FM, FD, FS, rfl, p1, p2, r1, r2⟩
set_option maxRecDepth 20000 in
theorem open_trip {H : Type} {enc : TypeId × Value → H} {W : World} {b0 : Nat} {r : Reach} {v : Value} {d : DataW H} {ps : List MemPlace} {sp : Nat → Bool} {base : Nat} {held : Bool} (hval : Value.okWide Tryd.prog W r b0 32 v)
    (h : DataW.Trod enc Tryd.prog W base sp held 32 v d ps) : ∃ m k l : Int, v = .agg #[.int .i64 m, .int .i64 k, .int .i64 l] ∧ Bd m ∧ Bd k ∧ Bd l := by
  simp only [Value.okWide, Tryd.underlying32] at hval
  obtain ⟨cs, rfl, hsz, _⟩ := hval
  obtain ⟨fuel, hf⟩ := h
  have c2 : Tryd.prog.cellsOf 3 = 1 := by kernel_rfl
  have cA : Tryd.prog.cellsOf 32 = 3 := by kernel_rfl
  rw [cA] at hsz
  obtain ⟨xs, m, _, _, _, hxl, hx⟩ := DataW.trod_array Tryd.underlying32 hf
  rw [c2] at hx
  have h0 := hx 0 (by decide)
  have h1 := hx 1 (by decide)
  have h2 := hx 2 (by decide)
  obtain ⟨cl⟩ := cs
  match cl, hsz, xs, hxl with
  | [v0, v1, v2], _, [x0, x1, x2], _ =>
    simp [Value.cells] at h0 h1 h2
    obtain ⟨n0, e0, _, w0⟩ := DataW.trod_int Tryd.underlying3 h0
    obtain ⟨n1, e1, _, w1⟩ := DataW.trod_int Tryd.underlying3 h1
    obtain ⟨n2, e2, _, w2⟩ := DataW.trod_int Tryd.underlying3 h2
    simp only [List.cons.injEq, and_true] at e0 e1 e2
    subst e0
    subst e1
    subst e2
    simp only [Lit.wf, Bool.and_eq_true, decide_eq_true_eq] at w0 w1 w2
    exact ⟨n0, n1, n2, rfl, w0, w1, w2⟩
end Go.Proofs.YthpjeclhignciaaDoor
