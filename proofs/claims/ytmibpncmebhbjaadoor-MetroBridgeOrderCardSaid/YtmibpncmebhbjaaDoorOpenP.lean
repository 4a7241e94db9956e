/- Arguments opened: a list of pairs of numbers. -/
import Derived.Test.YtmibpncmebhbjaaDoorOpenR
import Derived.Deep.Slices
namespace Go.Proofs.YtmibpncmebhbjaaDoor
open Go Go.ChangeShapes Go.WideShapes Go.RowKit

set_option maxRecDepth 20000 in
theorem open_pairs {H : Type} {enc : TypeId × Value → H} {W : World} {b0 : Nat} {r : Reach} {v : Value} {d : DataW H} {ps : List MemPlace} {sp : Nat → Bool} {base : Nat} {held : Bool} (hval : Value.okWide Tryd.prog W r b0 97 v)
    (h : DataW.Trod enc Tryd.prog W base sp held 97 v d ps) :
    ∃ (l : List (Int × Int)), Sl W 2 v (rsV l) ∧ (∀ f ∈ l, Bd f.1 ∧ Bd f.2) := by
  obtain ⟨A, n, c, rfl⟩ := okWide_slice Tryd.underlying97 hval
  obtain ⟨fuel, hf⟩ := h
  have c2 : Tryd.prog.cellsOf 3 = 1 := by kernel_rfl
  have cu : Tryd.prog.cellsOf 68 = 2 := by kernel_rfl
  rcases Go.Deep.open_slice Tryd.underlying97 hf with ⟨e1, x1⟩ | ⟨a, len, cap, m, n', D, Pl, e1, hb, hlc, hcm, hm, x1, hi⟩
  · simp [Value.cells] at e1
    obtain ⟨rfl, rfl, rfl⟩ := e1
    exact ⟨[], Sl.nil0 _ _, by simp⟩
  · simp [Value.cells] at e1
    obtain ⟨rfl, rfl, rfl⟩ := e1
    have hlm : n ≤ m := by rw [hm]; split <;> omega
    rw [cu] at hi
    have each : ∀ i, i < n → ∃ u : Int × Int, W.cell? (a.add (i * 2)) = some (.int .i64 u.1) ∧ (W.cell? (a.add (i * 2 + 1)) = some (.int .i64 u.2) ∧ Bd u.1 ∧ Bd u.2) := by
      intro i hil
      obtain ⟨cs', g1, g2⟩ := hi i (by omega)
      obtain ⟨_, hlen, hcell⟩ := World.cells?_some g1
      obtain ⟨xs, k, _, _, _, hxl, hx⟩ := DataW.trod_array Tryd.underlying68 g2
      rw [c2] at hx
      have h0 := hx 0 (by decide)
      have h1 := hx 1 (by decide)
      match cs', hlen, xs, hxl with
      | [v0, v1], _, [x0, x1], _ =>
        simp at h0 h1
        obtain ⟨f0, e0, _, w0⟩ := DataW.trod_int Tryd.underlying3 h0
        obtain ⟨f1, e1, _, w1⟩ := DataW.trod_int Tryd.underlying3 h1
        simp only [List.cons.injEq, and_true] at e0 e1
        subst e0
        subst e1
        simp only [Lit.wf, Bool.and_eq_true, decide_eq_true_eq] at w0 w1
        have q0 := hcell 0 (by omega)
        have q1 := hcell 1 (by omega)
        rw [add_add] at q0 q1
        exact ⟨(f0, f1), by simpa using q0, by simpa using q1, w0, w1⟩
    obtain ⟨U, hU⟩ := Go.Deep.choose_lt each
    refine ⟨(List.range n).map U, ⟨some a, n, c, rfl, by rw [rsV_length]; simp, hlc, by unfold maxLen at hcm; omega, fun _ => ⟨a, rfl, fun j u hj => ?_⟩⟩, fun f hf => ?_⟩
    · obtain ⟨i, hil, hc⟩ := rsV_cells hj
      simp only [List.length_map, List.length_range] at hil
      obtain ⟨u0, u1, _, _⟩ := hU i hil
      simp only [List.getElem_map, List.getElem_range] at hc
      rcases hc with ⟨rfl, rfl⟩ | ⟨rfl, rfl⟩
      · exact u0
      · exact u1
    · obtain ⟨i, hi', rfl⟩ := List.mem_map.1 hf
      exact (hU i (List.mem_range.1 hi')).2.2
end Go.Proofs.YtmibpncmebhbjaaDoor
