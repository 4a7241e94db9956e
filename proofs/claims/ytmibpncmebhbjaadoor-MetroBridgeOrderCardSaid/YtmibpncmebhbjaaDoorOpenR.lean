/- Arguments opened: a ratio, a list of ratios, a list of pairs. -/
import Derived.Test.YtmibpncmebhbjaaDoorOpenL
import Derived.Test.YtmibpncmebhbjaaDoorMul1
namespace Go.Proofs.YtmibpncmebhbjaaDoor
open Go Go.ChangeShapes Go.WideShapes Go.RowKit

theorem rsV_cells {us : List (Int × Int)} {j : Nat} {u : Value} (h : (rsV us)[j]? = some u) : ∃ i, ∃ hi : i < us.length, (j = i * 2 ∧ u = .int .i64 us[i].1) ∨ (j = i * 2 + 1 ∧ u = .int .i64 us[i].2) := by
  have hj : j < (rsV us).length := by
    rcases Nat.lt_or_ge j (rsV us).length with h' | h'
    · exact h'
    · rw [List.getElem?_eq_none h'] at h; cases h
  rw [rsV_length] at hj
  have hi : j / 2 < us.length := by omega
  refine ⟨j / 2, hi, ?_⟩
  obtain ⟨g0, g1⟩ := rsV_get hi
  rcases Nat.mod_two_eq_zero_or_one j with h2 | h2
  · left
    have e : j = j / 2 * 2 := by omega
    rw [← e, h] at g0
    injection g0 with g0
    exact ⟨e, g0⟩
  · right
    have e : j = j / 2 * 2 + 1 := by omega
    rw [← e, h] at g1
    injection g1 with g1
    exact ⟨e, g1⟩

set_option maxRecDepth 20000 in
theorem open_rat {H : Type} {enc : TypeId × Value → H} {W : World} {b0 : Nat} {r : Reach} {v : Value} {d : DataW H} {ps : List MemPlace} {sp : Nat → Bool} {base : Nat} {held : Bool} (hval : Value.okWide Tryd.prog W r b0 23 v)
    (h : DataW.Trod enc Tryd.prog W base sp held 23 v d ps) : ∃ m k : Int, v = .agg #[.int .i64 m, .int .i64 k] ∧ Bd m ∧ Bd k := by
  obtain ⟨cs, rfl, hsz⟩ := okWide_struct Tryd.underlying23 hval
  obtain ⟨fuel, hf⟩ := h
  obtain ⟨y0, y1, n, hx, hl, h0, h1⟩ := trod_struct2 Tryd.underlying23 hf
  have c2 : Tryd.prog.cellsOf 3 = 1 := by kernel_rfl
  have cL : Tryd.prog.cellsOf 23 = 2 := by kernel_rfl
  rw [cL] at hsz
  simp only [c2] at h0 h1
  obtain ⟨cl⟩ := cs
  match cl, hsz with
  | [v0, v1], _ =>
    simp [Value.cells] at h0 h1
    obtain ⟨n0, e0, _, w0⟩ := DataW.trod_int Tryd.underlying3 h0
    obtain ⟨n1, e1, _, w1⟩ := DataW.trod_int Tryd.underlying3 h1
    simp only [List.cons.injEq, and_true] at e0 e1
    subst e0
    subst e1
    simp only [Lit.wf, Bool.and_eq_true, decide_eq_true_eq] at w0 w1
    exact ⟨n0, n1, rfl, w0, w1⟩
set_option maxRecDepth 20000 in
theorem open_rats {H : Type} {enc : TypeId × Value → H} {W : World} {b0 : Nat} {r : Reach} {v : Value} {d : DataW H} {ps : List MemPlace} {sp : Nat → Bool} {base : Nat} {held : Bool} (hval : Value.okWide Tryd.prog W r b0 94 v)
    (h : DataW.Trod enc Tryd.prog W base sp held 94 v d ps) :
    ∃ (l : List (Int × Int)), Sl W 2 v (rsV l) ∧ (∀ f ∈ l, Bd f.1 ∧ Bd f.2) ∧ ((d.weights Tryd.prog 94).all (· ≤ reachBytes) = true → l.length * 16 ≤ 140737488355328) := by
  obtain ⟨A, n, c, rfl⟩ := okWide_slice Tryd.underlying94 hval
  obtain ⟨fuel, hf⟩ := h
  have c2 : Tryd.prog.cellsOf 3 = 1 := by kernel_rfl
  have cu : Tryd.prog.cellsOf 23 = 2 := by kernel_rfl
  have bU : Tryd.prog.bytesOf 23 = 16 := by kernel_rfl
  rcases Go.Deep.open_slice_pairs Tryd.underlying94 Tryd.underlying23 cu rfl rfl c2 c2 hf with ⟨e1, x1⟩ | ⟨a, len, cap, m, n', V0, V1, D0, D1, P0, P1, e1, hb, hlc, hcm, hm, x1, hi⟩
  · simp [Value.cells] at e1
    obtain ⟨rfl, rfl, rfl⟩ := e1
    exact ⟨[], Sl.nil0 _ _, by simp, fun _ => by simp⟩
  · simp [Value.cells] at e1
    obtain ⟨rfl, rfl, rfl⟩ := e1
    have hlm : n ≤ m := by rw [hm]; split <;> omega
    have each : ∀ i, i < n → ∃ u : Int × Int, V0 i = .int .i64 u.1 ∧ V1 i = .int .i64 u.2 ∧ Bd u.1 ∧ Bd u.2 := by
      intro i hil
      obtain ⟨_, _, g0, g1⟩ := hi i (by omega)
      obtain ⟨f0, q0, _, hf0⟩ := DataW.trod_int Tryd.underlying3 g0
      obtain ⟨f1, q1, _, hf1⟩ := DataW.trod_int Tryd.underlying3 g1
      simp only [List.cons.injEq, and_true] at q0 q1
      simp only [Lit.wf, Bool.and_eq_true, decide_eq_true_eq] at hf0 hf1
      exact ⟨(f0, f1), q0, q1, hf0, hf1⟩
    have each' : ∀ i, i < n → ∃ u : Int × Int, V0 i = .int .i64 u.1 ∧ (V1 i = .int .i64 u.2 ∧ Bd u.1 ∧ Bd u.2) := each
    obtain ⟨U, hU⟩ := Go.Deep.choose_lt each'
    refine ⟨(List.range n).map U, ⟨some a, n, c, rfl, by rw [rsV_length]; simp, hlc, by unfold maxLen at hcm; omega, fun _ => ⟨a, rfl, fun j u hj => ?_⟩⟩, fun f hf => ?_, fun hw => ?_⟩
    · obtain ⟨i, hil, hc⟩ := rsV_cells hj
      simp only [List.length_map, List.length_range] at hil
      obtain ⟨k0, k1, _, _⟩ := hi i (by omega)
      obtain ⟨u0, u1, _, _⟩ := hU i hil
      simp only [List.getElem_map, List.getElem_range] at hc
      rcases hc with ⟨rfl, rfl⟩ | ⟨rfl, rfl⟩
      · rw [k0, u0]
      · rw [k1, u1]
    · obtain ⟨i, hi', rfl⟩ := List.mem_map.1 hf
      exact (hU i (List.mem_range.1 hi')).2.2
    · simp only [Prod.mk.injEq] at x1
      rw [x1.1] at hw
      simp [DataW.weights, Tryd.underlying94, bU, reachBytes] at hw
      simp only [List.length_map, List.length_range]
      have h9 := of_decide_eq_true hw.1
      omega
end Go.Proofs.YtmibpncmebhbjaaDoor
