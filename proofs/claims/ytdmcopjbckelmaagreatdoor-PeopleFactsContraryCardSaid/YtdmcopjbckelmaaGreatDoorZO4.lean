/- Arguments opened: a slice of numbers. No condition. -/
import Derived.Test.YtdmcopjbckelmaaGreatDoorZO
namespace Go.Proofs.YtdmcopjbckelmaaGreatDoor
open Go Go.ChangeShapes Go.WideShapes Go.RowKit

set_option maxRecDepth 20000 in
theorem open_intl {H : Type} {enc : TypeId × Value → H} {W : World} {b0 : Nat} {r : Reach} {v : Value} {d : DataW H} {ps : List MemPlace} {sp : Nat → Bool} {base : Nat} {held : Bool} (hval : Value.okWide Tryz.prog W r b0 47 v)
    (h : DataW.Trod enc Tryz.prog W base sp held 47 v d ps) :
    ∃ (l : List Int) (A : Option Addr) (c : Nat), v = .slice A l.length c ∧ Sl W 1 (.slice A l.length c) (l.map (Value.int .i64)) ∧ (∀ f ∈ l, Bd f) ∧ ((d.weights Tryz.prog 47).all (· ≤ reachBytes) = true → l.length * 8 ≤ 140737488351232) := by
  obtain ⟨A, n, c, rfl⟩ := okWide_slice Tryz.underlying47 hval
  obtain ⟨fuel, hf⟩ := h
  have c2 : Tryz.prog.cellsOf 3 = 1 := by kernel_rfl
  have bI : Tryz.prog.bytesOf 3 = 8 := by kernel_rfl
  rcases Go.Deep.open_slice1 Tryz.underlying47 c2 hf with ⟨e1, x1⟩ | ⟨a, len, cap, m, n', V, D, Pl, e1, hb, hlc, hcm, hm, x1, hi⟩
  · simp [Value.cells] at e1
    obtain ⟨rfl, rfl, rfl⟩ := e1
    exact ⟨[], none, 0, rfl, Sl.nil0 _ _, by simp, fun _ => by simp⟩
  · simp [Value.cells] at e1
    obtain ⟨rfl, rfl, rfl⟩ := e1
    have hlm : n ≤ m := by rw [hm]; split <;> omega
    have each : ∀ i, i < n → ∃ f : Int, V i = .int .i64 f ∧ Bd f := by
      intro i hil
      obtain ⟨_, g1⟩ := hi i (by omega)
      obtain ⟨f', q1, _, hf'⟩ := DataW.trod_int Tryz.underlying3 g1
      simp only [List.cons.injEq, and_true] at q1
      refine ⟨f', q1, ?_⟩
      simp only [Lit.wf, Bool.and_eq_true, decide_eq_true_eq] at hf'
      exact hf'
    obtain ⟨U, hU⟩ := Go.Deep.choose_lt each
    refine ⟨(List.range n).map U, some a, c, by simp, ⟨some a, n, c, by simp, by simp, hlc, by unfold maxLen at hcm; omega, fun _ => ⟨a, rfl, fun j u hj => ?_⟩⟩, fun f hf => ?_, fun hw => ?_⟩
    · have hjn : j < n := by
        rcases Nat.lt_or_ge j n with h' | h'
        · exact h'
        · rw [List.getElem?_eq_none (by simpa using h')] at hj; cases hj
      simp only [List.getElem?_map, List.getElem?_range hjn, Option.map_some, Option.some.injEq] at hj
      rw [(hi j (by omega)).1, (hU j hjn).1, ← hj]
    · obtain ⟨i, hi', rfl⟩ := List.mem_map.1 hf
      exact (hU i (List.mem_range.1 hi')).2
    · simp only [Prod.mk.injEq] at x1
      rw [x1.1] at hw
      simp [DataW.weights, Tryz.underlying47, bI, reachBytes] at hw
      simp only [List.length_map, List.length_range]
      have h9 := of_decide_eq_true hw.1
      omega
end Go.Proofs.YtdmcopjbckelmaaGreatDoor
