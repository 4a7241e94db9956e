/- Arguments opened: deeds, with their weights. No condition. -/
import Derived.Test.YtdmcopjbckelmaaGreatDoorZO5
namespace Go.Proofs.YtdmcopjbckelmaaGreatDoor
open Go Go.ChangeShapes Go.WideShapes Go.RowKit

theorem weightsAll_mem {H : Type} {P : Program} {e : TypeId} {p : Nat → Bool} {d : DataW H} : ∀ {l : List (DataW H)}, d ∈ l → (DataW.weightsAll P e l).all p = true → (d.weights P e).all p = true := by
  intro l
  induction l with
  | nil => intro h; cases h
  | cons c l ih =>
    intro h ha
    simp only [DataW.weightsAll, List.all_append, Bool.and_eq_true] at ha
    rcases List.mem_cons.1 h with q | q
    · rw [q]; exact ha.1
    · exact ih q ha.2
/-- Deeds that memory can hold. -/
def WtDs (ds : List De) : Prop := ds.length * 80 ≤ 140737488351232 ∧ ∀ d ∈ ds, d.wit.length * 16 ≤ 140737488351232
section
variable {H : Type} {enc : TypeId × Value → H} {W : World} {sp : Nat → Bool} {base : Nat} {held : Bool}
set_option maxRecDepth 20000 in
theorem open_deT2 {fuel : Nat} {v0 v1 v2 v3 v4 : Value} {x : DataW H × List MemPlace} (h : DataW.trod enc Tryz.prog W base sp held fuel 63 [v0, v1, v2, v3, v4] = some x) : ∃ p : De × Value, [v0, v1, v2, v3, v4] = [Value.string p.1.nm, .int .i64 p.1.year, .string p.1.sealer, .string p.1.sl, p.2] ∧ Sl W 1 p.2 (namesV p.1.wit) ∧ ShortD p.1 ∧ Bd p.1.year ∧ ((x.1.weights Tryz.prog 63).all (· ≤ reachBytes) = true → p.1.wit.length * 16 ≤ 140737488351232) := by
  have c2 : Tryz.prog.cellsOf 3 = 1 := by kernel_rfl
  have cs : Tryz.prog.cellsOf 9 = 1 := by kernel_rfl
  have cl : Tryz.prog.cellsOf 22 = 1 := by kernel_rfl
  obtain ⟨xs, k, _, hxx, _, hxl, hx⟩ := DataW.trod_struct Tryz.underlying63 h
  have h0 := hx 0 _ rfl
  have h1 := hx 1 _ rfl
  have h2 := hx 2 _ rfl
  have h3 := hx 3 _ rfl
  have h4 := hx 4 _ rfl
  match xs, hxl with
  | [x0, x1, x2, x3, x4], _ =>
    simp [c2, cs, cl] at h0 h1 h2 h3 h4
    obtain ⟨f0, e0, _, w0⟩ := DataW.trod_string Tryz.underlying9 h0
    obtain ⟨f1, e1, _, w1⟩ := DataW.trod_int Tryz.underlying3 h1
    obtain ⟨f2, e2, _, w2⟩ := DataW.trod_string Tryz.underlying9 h2
    obtain ⟨f3, e3, _, w3⟩ := DataW.trod_string Tryz.underlying9 h3
    obtain ⟨ns, k1, k2, k3⟩ := open_strsT h4
    simp only [List.cons.injEq, and_true] at e0 e1 e2 e3
    subst e0 e1 e2 e3
    simp only [Lit.wf, Bool.and_eq_true, decide_eq_true_eq] at w1
    unfold maxLen at w0 w2 w3
    exact ⟨⟨⟨f0, f1, f2, f3, ns⟩, v4⟩, rfl, k1, ⟨⟨by show (f0.size : Int) ≤ _; omega, by show (f2.size : Int) ≤ _; omega, by show (f3.size : Int) ≤ _; omega⟩, k2⟩, w1, fun hw => by
      rw [hxx] at hw
      simp only [DataW.weights, Tryz.underlying63, List.map_cons, List.map_nil, DataW.weightsEach, List.all_append, Bool.and_eq_true] at hw
      exact k3 hw.2.2.2.2.1⟩
end
set_option maxRecDepth 20000 in
theorem open_deedsW {H : Type} {enc : TypeId × Value → H} {W : World} {b0 : Nat} {r : Reach} {v : Value} {d : DataW H} {ps : List MemPlace} {sp : Nat → Bool} {base : Nat} {held : Bool} (hval : Value.okWide Tryz.prog W r b0 38 v)
    (h : DataW.Trod enc Tryz.prog W base sp held 38 v d ps) :
    ∃ ds : List De, DeedsV W v ds ∧ ShortDs ds ∧ (∀ d ∈ ds, Bd d.year) ∧ ((d.weights Tryz.prog 38).all (· ≤ reachBytes) = true → WtDs ds) := by
  obtain ⟨A, n, c, rfl⟩ := okWide_slice Tryz.underlying38 hval
  obtain ⟨fuel, h⟩ := h
  have cu : Tryz.prog.cellsOf 63 = 5 := by kernel_rfl
  have bD : Tryz.prog.bytesOf 63 = 80 := by kernel_rfl
  rcases Go.Deep.open_slice Tryz.underlying38 h with ⟨e1, x1⟩ | ⟨a, n', c', m, n2, D, Pl, e1, hb, hlc, hcm, hm, x1, hi⟩
  · simp [Value.cells] at e1
    obtain ⟨rfl, rfl, rfl⟩ := e1
    exact ⟨[], ⟨[], rfl, Sl.nil0 _ _, by simp⟩, (by intro d hd; cases hd), (by simp), fun _ => ⟨by simp, (by intro d hd; cases hd)⟩⟩
  · simp [Value.cells] at e1
    obtain ⟨rfl, rfl, rfl⟩ := e1
    have hlm : n ≤ m := by rw [hm]; split <;> omega
    rw [cu] at hi
    have each : ∀ i, i < n → ∃ u : De × Value, (∀ t, t < 5 → W.cell? (a.add (i * 5 + t)) = [Value.string u.1.nm, .int .i64 u.1.year, .string u.1.sealer, .string u.1.sl, u.2][t]?) ∧ Sl W 1 u.2 (namesV u.1.wit) ∧ ShortD u.1 ∧ Bd u.1.year ∧ (((D i).weights Tryz.prog 63).all (· ≤ reachBytes) = true → u.1.wit.length * 16 ≤ 140737488351232) := by
      intro i hil
      obtain ⟨cs', g1, g2⟩ := hi i (by omega)
      obtain ⟨_, hlen, hcell⟩ := World.cells?_some g1
      match cs', hlen with
      | [v0, v1, v2, v3, v4], _ =>
        obtain ⟨u, hu, hB⟩ := open_deT2 g2
        refine ⟨u, fun t ht => ?_, hB⟩
        have q := hcell t ht
        rw [add_add, hu] at q
        exact q
    obtain ⟨U, hU⟩ := Go.Deep.choose_lt each
    refine ⟨((List.range n).map U).map (·.1), ⟨(List.range n).map U, rfl, ⟨some a, n, c, rfl, by rw [deCells_length]; simp, hlc, by unfold maxLen at hcm; omega, fun _ => ⟨a, rfl, fun j u hj => ?_⟩⟩, fun p hp => ?_⟩, fun d hd => ?_, fun d hd => ?_, fun hw => ?_⟩
    · obtain ⟨i, hil, t, ht, rfl, hc⟩ := deCells_cells hj
      simp only [List.length_map, List.length_range] at hil
      rw [(hU i hil).1 t ht]
      simpa using hc
    · obtain ⟨i, hi', rfl⟩ := List.mem_map.1 hp
      exact (hU i (List.mem_range.1 hi')).2.1
    · obtain ⟨p, hp, rfl⟩ := List.mem_map.1 hd
      obtain ⟨i, hi', rfl⟩ := List.mem_map.1 hp
      exact (hU i (List.mem_range.1 hi')).2.2.1
    · obtain ⟨p, hp, rfl⟩ := List.mem_map.1 hd
      obtain ⟨i, hi', rfl⟩ := List.mem_map.1 hp
      exact (hU i (List.mem_range.1 hi')).2.2.2.1
    · simp only [Prod.mk.injEq] at x1
      rw [x1.1] at hw
      simp only [DataW.weights, Tryz.underlying38, bD, List.all_cons, List.all_append, Bool.and_eq_true, reachBytes, List.length_map, List.length_range] at hw
      have h9 : (n + (m - n)) * 80 ≤ 140737488351232 := of_decide_eq_true hw.1
      refine ⟨by simp only [List.length_map, List.length_range]; omega, fun d hd => ?_⟩
      obtain ⟨p, hp, rfl⟩ := List.mem_map.1 hd
      obtain ⟨i, hi', rfl⟩ := List.mem_map.1 hp
      exact (hU i (List.mem_range.1 hi')).2.2.2.2 (weightsAll_mem (List.mem_map.2 ⟨i, hi', rfl⟩) hw.2.1)
end Go.Proofs.YtdmcopjbckelmaaGreatDoor
