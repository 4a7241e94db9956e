/- Arguments opened: deeds. No condition. -/
import Derived.Test.YtdmcopjbckelmaaGreatDoorZO
import Derived.Test.YtdmcopjbckelmaaGreatDoorZG
namespace Go.Proofs.YtdmcopjbckelmaaGreatDoor
open Go Go.ChangeShapes Go.WideShapes Go.RowKit

theorem deCells_cells {us : List (De × Value)} {j : Nat} {u : Value} (h : (deCells us)[j]? = some u) : ∃ i, ∃ hi : i < us.length, ∃ t, t < 5 ∧ j = i * 5 + t ∧ [Value.string us[i].1.nm, .int .i64 us[i].1.year, .string us[i].1.sealer, .string us[i].1.sl, us[i].2][t]? = some u := by
  have hj : j < (deCells us).length := by
    rcases Nat.lt_or_ge j (deCells us).length with h' | h'
    · exact h'
    · rw [List.getElem?_eq_none h'] at h; cases h
  rw [deCells_length] at hj
  have hi : j / 5 < us.length := by omega
  have e : j = j / 5 * 5 + j % 5 := by omega
  refine ⟨j / 5, hi, j % 5, by omega, e, ?_⟩
  have hr : j % 5 < ([Value.string us[j / 5].1.nm, .int .i64 us[j / 5].1.year, .string us[j / 5].1.sealer, .string us[j / 5].1.sl, us[j / 5].2] : List Value).length := by
    show j % 5 < 5
    omega
  have g := deCells_get (List.getElem?_eq_getElem hi) (j % 5) _ (List.getElem?_eq_getElem hr)
  rw [← e, h] at g
  rw [List.getElem?_eq_getElem hr]
  exact g.symm
instance : Inhabited (De × Value) := ⟨⟨⟨⟨#[]⟩, 0, ⟨#[]⟩, ⟨#[]⟩, []⟩, .bool true⟩⟩
section
variable {H : Type} {enc : TypeId × Value → H} {W : World} {sp : Nat → Bool} {base : Nat} {held : Bool}
set_option maxRecDepth 20000 in
theorem open_deT {fuel : Nat} {v0 v1 v2 v3 v4 : Value} {x : DataW H × List MemPlace} (h : DataW.trod enc Tryz.prog W base sp held fuel 63 [v0, v1, v2, v3, v4] = some x) : ∃ p : De × Value, [v0, v1, v2, v3, v4] = [Value.string p.1.nm, .int .i64 p.1.year, .string p.1.sealer, .string p.1.sl, p.2] ∧ Sl W 1 p.2 (namesV p.1.wit) ∧ ShortD p.1 ∧ Bd p.1.year := by
  have c2 : Tryz.prog.cellsOf 3 = 1 := by kernel_rfl
  have cs : Tryz.prog.cellsOf 9 = 1 := by kernel_rfl
  have cl : Tryz.prog.cellsOf 22 = 1 := by kernel_rfl
  obtain ⟨xs, k, _, _, _, hxl, hx⟩ := DataW.trod_struct Tryz.underlying63 h
  have h0 := hx 0 _ rfl
  have h1 := hx 1 _ rfl
  have h2 := hx 2 _ rfl
  have h3 := hx 3 _ rfl
  have h4 := hx 4 _ rfl
  match xs, hxl with
  | [x0, x1, x2, x3, x4], _ =>
    simp [c2, cs, cl] at h0 h1 h2 h3 h4
    obtain ⟨f0, e0, _, w0⟩ := DataW.trod_string Tryz.underlying9 h0
    obtain ⟨f1, e1, _, w1⟩ := DataW.trod_int Tryz.underlying3 h1
    obtain ⟨f2, e2, _, w2⟩ := DataW.trod_string Tryz.underlying9 h2
    obtain ⟨f3, e3, _, w3⟩ := DataW.trod_string Tryz.underlying9 h3
    obtain ⟨ns, k1, k2, _⟩ := open_strsT h4
    simp only [List.cons.injEq, and_true] at e0 e1 e2 e3
    subst e0 e1 e2 e3
    simp only [Lit.wf, Bool.and_eq_true, decide_eq_true_eq] at w1
    unfold maxLen at w0 w2 w3
    exact ⟨⟨⟨f0, f1, f2, f3, ns⟩, v4⟩, rfl, k1, ⟨⟨by show (f0.size : Int) ≤ _; omega, by show (f2.size : Int) ≤ _; omega, by show (f3.size : Int) ≤ _; omega⟩, k2⟩, w1⟩
end
set_option maxRecDepth 20000 in
theorem open_deeds {H : Type} {enc : TypeId × Value → H} {W : World} {b0 : Nat} {r : Reach} {v : Value} {d : DataW H} {ps : List MemPlace} {sp : Nat → Bool} {base : Nat} {held : Bool} (hval : Value.okWide Tryz.prog W r b0 38 v)
    (h : DataW.Trod enc Tryz.prog W base sp held 38 v d ps) :
    ∃ ds : List De, DeedsV W v ds ∧ ShortDs ds ∧ ∀ d ∈ ds, Bd d.year := by
  obtain ⟨A, n, c, rfl⟩ := okWide_slice Tryz.underlying38 hval
  obtain ⟨fuel, h⟩ := h
  have cu : Tryz.prog.cellsOf 63 = 5 := by kernel_rfl
  rcases Go.Deep.open_slice Tryz.underlying38 h with ⟨e1, x1⟩ | ⟨a, n', c', m, n2, D, Pl, e1, hb, hlc, hcm, hm, x1, hi⟩
  · simp [Value.cells] at e1
    obtain ⟨rfl, rfl, rfl⟩ := e1
    exact ⟨[], ⟨[], rfl, Sl.nil0 _ _, by simp⟩, (by intro d hd; cases hd), by simp⟩
  · simp [Value.cells] at e1
    obtain ⟨rfl, rfl, rfl⟩ := e1
    have hlm : n ≤ m := by rw [hm]; split <;> omega
    rw [cu] at hi
    have each : ∀ i, i < n → ∃ u : De × Value, (∀ t, t < 5 → W.cell? (a.add (i * 5 + t)) = [Value.string u.1.nm, .int .i64 u.1.year, .string u.1.sealer, .string u.1.sl, u.2][t]?) ∧ Sl W 1 u.2 (namesV u.1.wit) ∧ ShortD u.1 ∧ Bd u.1.year := by
      intro i hil
      obtain ⟨cs', g1, g2⟩ := hi i (by omega)
      obtain ⟨_, hlen, hcell⟩ := World.cells?_some g1
      match cs', hlen with
      | [v0, v1, v2, v3, v4], _ =>
        obtain ⟨u, hu, hB⟩ := open_deT g2
        refine ⟨u, fun t ht => ?_, hB⟩
        have q := hcell t ht
        rw [add_add, hu] at q
        exact q
    obtain ⟨U, hU⟩ := Go.Deep.choose_lt each
    refine ⟨((List.range n).map U).map (·.1), ⟨(List.range n).map U, rfl, ⟨some a, n, c, rfl, by rw [deCells_length]; simp, hlc, by unfold maxLen at hcm; omega, fun _ => ⟨a, rfl, fun j u hj => ?_⟩⟩, fun p hp => ?_⟩, fun d hd => ?_, fun d hd => ?_⟩
    · obtain ⟨i, hil, t, ht, rfl, hc⟩ := deCells_cells hj
      simp only [List.length_map, List.length_range] at hil
      rw [(hU i hil).1 t ht]
      simpa using hc
    · obtain ⟨i, hi', rfl⟩ := List.mem_map.1 hp
      exact (hU i (List.mem_range.1 hi')).2.1
    · obtain ⟨p, hp, rfl⟩ := List.mem_map.1 hd
      obtain ⟨i, hi', rfl⟩ := List.mem_map.1 hp
      exact (hU i (List.mem_range.1 hi')).2.2.1
    · obtain ⟨p, hp, rfl⟩ := List.mem_map.1 hd
      obtain ⟨i, hi', rfl⟩ := List.mem_map.1 hp
      exact (hU i (List.mem_range.1 hi')).2.2.2
end Go.Proofs.YtdmcopjbckelmaaGreatDoor
