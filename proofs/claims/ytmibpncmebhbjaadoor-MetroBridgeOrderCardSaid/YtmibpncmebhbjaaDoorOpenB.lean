/- Arguments opened: a list of bools. -/
import Derived.Test.YtmibpncmebhbjaaDoorOpenL
namespace Go.Proofs.YtmibpncmebhbjaaDoor
open Go Go.ChangeShapes Go.WideShapes Go.RowKit
set_option maxRecDepth 20000 in
theorem open_bools {H : Type} {enc : TypeId × Value → H} {W : World} {b0 : Nat} {r : Reach} {v : Value} {d : DataW H} {ps : List MemPlace} {sp : Nat → Bool} {base : Nat} {held : Bool} (hval : Value.okWide Tryd.prog W r b0 81 v)
    (h : DataW.Trod enc Tryd.prog W base sp held 81 v d ps) :
    ∃ (l : List Bool) (A : Option Addr) (c : Nat), v = .slice A l.length c ∧ Sl W 1 (.slice A l.length c) (l.map Value.bool) := by
  obtain ⟨A, n, c, rfl⟩ := okWide_slice Tryd.underlying81 hval
  obtain ⟨fuel, hf⟩ := h
  have c2 : Tryd.prog.cellsOf 4 = 1 := by kernel_rfl
  rcases Go.Deep.open_slice1 Tryd.underlying81 c2 hf with ⟨e1, x1⟩ | ⟨a, len, cap, m, n', V, D, Pl, e1, hb, hlc, hcm, hm, x1, hi⟩
  · simp [Value.cells] at e1
    obtain ⟨rfl, rfl, rfl⟩ := e1
    exact ⟨[], none, 0, rfl, Sl.nil0 _ _⟩
  · simp [Value.cells] at e1
    obtain ⟨rfl, rfl, rfl⟩ := e1
    have hlm : n ≤ m := by rw [hm]; split <;> omega
    have each : ∀ i, i < n → ∃ f : Bool, V i = .bool f := by
      intro i hil
      obtain ⟨_, g1⟩ := hi i (by omega)
      obtain ⟨f', q1, _⟩ := DataW.trod_bool Tryd.underlying4 g1
      simp only [List.cons.injEq, and_true] at q1
      exact ⟨f', q1⟩
    obtain ⟨U, hU⟩ := Go.Deep.choose_lt each
    refine ⟨(List.range n).map U, some a, c, by simp, ⟨some a, n, c, by simp, by simp, hlc, by unfold maxLen at hcm; omega, fun _ => ⟨a, rfl, fun j u hj => ?_⟩⟩⟩
    have hjn : j < n := by
      rcases Nat.lt_or_ge j n with h' | h'
      · exact h'
      · rw [List.getElem?_eq_none (by simpa using h')] at hj; cases hj
    simp only [List.getElem?_map, List.getElem?_range hjn, Option.map_some, Option.some.injEq] at hj
    rw [(hi j (by omega)).1, hU j hjn, ← hj]
end Go.Proofs.YtmibpncmebhbjaaDoor
