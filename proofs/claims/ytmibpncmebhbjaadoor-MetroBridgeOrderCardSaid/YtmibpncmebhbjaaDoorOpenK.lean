/- Arguments opened: a list of links. -/
import Derived.Test.YtmibpncmebhbjaaDoorOpenP
import Derived.Test.YtmibpncmebhbjaaDoorFou1
namespace Go.Proofs.YtmibpncmebhbjaaDoor
open Go Go.ChangeShapes Go.WideShapes Go.RowKit

theorem lksV_cells {us : List Lk} {j : Nat} {u : Value} (h : (lksV us)[j]? = some u) : ∃ i, ∃ hi : i < us.length, ∃ t, t < 6 ∧ j = i * 6 + t ∧ (lkV us[i])[t]? = some u := by
  have hj : j < (lksV us).length := by
    rcases Nat.lt_or_ge j (lksV us).length with h' | h'
    · exact h'
    · rw [List.getElem?_eq_none h'] at h; cases h
  rw [lksV_length] at hj
  have hi : j / 6 < us.length := by omega
  have e : j = j / 6 * 6 + j % 6 := by omega
  refine ⟨j / 6, hi, j % 6, by omega, e, ?_⟩
  rw [← lksV_get hi (j % 6) (by omega), ← e]
  exact h

instance : Inhabited Lk := ⟨⟨0, 0, 0, 0, 0, 0⟩⟩
set_option maxRecDepth 20000 in
theorem open_links {H : Type} {enc : TypeId × Value → H} {W : World} {b0 : Nat} {r : Reach} {v : Value} {d : DataW H} {ps : List MemPlace} {sp : Nat → Bool} {base : Nat} {held : Bool} (hval : Value.okWide Tryd.prog W r b0 40 v)
    (h : DataW.Trod enc Tryd.prog W base sp held 40 v d ps) :
    ∃ (l : List Lk), Sl W 6 v (lksV l) ∧ (∀ k ∈ l, LkBd k) := by
  obtain ⟨A, n, c, rfl⟩ := okWide_slice Tryd.underlying40 hval
  obtain ⟨fuel, hf⟩ := h
  have c2 : Tryd.prog.cellsOf 3 = 1 := by kernel_rfl
  have cu : Tryd.prog.cellsOf 135 = 6 := by kernel_rfl
  rcases Go.Deep.open_slice Tryd.underlying40 hf with ⟨e1, x1⟩ | ⟨a, len, cap, m, n', D, Pl, e1, hb, hlc, hcm, hm, x1, hi⟩
  · simp [Value.cells] at e1
    obtain ⟨rfl, rfl, rfl⟩ := e1
    exact ⟨[], Sl.nil0 _ _, by simp⟩
  · simp [Value.cells] at e1
    obtain ⟨rfl, rfl, rfl⟩ := e1
    have hlm : n ≤ m := by rw [hm]; split <;> omega
    rw [cu] at hi
    have each : ∀ i, i < n → ∃ u : Lk, (∀ t, t < 6 → W.cell? (a.add (i * 6 + t)) = (lkV u)[t]?) ∧ LkBd u := by
      intro i hil
      obtain ⟨cs', g1, g2⟩ := hi i (by omega)
      obtain ⟨_, hlen, hcell⟩ := World.cells?_some g1
      obtain ⟨xs, k, _, _, _, hxl, hx⟩ := DataW.trod_struct Tryd.underlying135 g2
      have h0 := hx 0 _ rfl
      have h1 := hx 1 _ rfl
      have h2 := hx 2 _ rfl
      have h3 := hx 3 _ rfl
      have h4 := hx 4 _ rfl
      have h5 := hx 5 _ rfl
      match cs', hlen, xs, hxl with
      | [v0, v1, v2, v3, v4, v5], _, [x0, x1, x2, x3, x4, x5], _ =>
        simp [c2] at h0 h1 h2 h3 h4 h5
        obtain ⟨f0, e0, _, w0⟩ := DataW.trod_int Tryd.underlying3 h0
        obtain ⟨f1, e1, _, w1⟩ := DataW.trod_int Tryd.underlying3 h1
        obtain ⟨f2, e2, _, w2⟩ := DataW.trod_int Tryd.underlying3 h2
        obtain ⟨f3, e3, _, w3⟩ := DataW.trod_int Tryd.underlying3 h3
        obtain ⟨f4, e4, _, w4⟩ := DataW.trod_int Tryd.underlying3 h4
        obtain ⟨f5, e5, _, w5⟩ := DataW.trod_int Tryd.underlying3 h5
        simp only [List.cons.injEq, and_true] at e0 e1 e2 e3 e4 e5
        subst e0 e1 e2 e3 e4 e5
        simp only [Lit.wf, Bool.and_eq_true, decide_eq_true_eq] at w0 w1 w2 w3 w4 w5
        refine ⟨⟨f0, f1, f2, f3, f4, f5⟩, fun t ht => ?_, w0, w1, w2, w3, w4, w5⟩
        have q := hcell t ht
        rw [add_add] at q
        exact q
    obtain ⟨U, hU⟩ := Go.Deep.choose_lt each
    refine ⟨(List.range n).map U, ⟨some a, n, c, rfl, by rw [lksV_length]; simp, hlc, by unfold maxLen at hcm; omega, fun _ => ⟨a, rfl, fun j u hj => ?_⟩⟩, fun f hf => ?_⟩
    · obtain ⟨i, hil, t, ht, rfl, hc⟩ := lksV_cells hj
      simp only [List.length_map, List.length_range] at hil
      rw [(hU i hil).1 t ht]
      simpa using hc
    · obtain ⟨i, hi', rfl⟩ := List.mem_map.1 hf
      exact (hU i (List.mem_range.1 hi')).2
end Go.Proofs.YtmibpncmebhbjaaDoor
