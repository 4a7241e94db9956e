/- Arguments opened: a ladder, a list of ints. -/
import Derived.Test.YtmibpncmebhbjaaDoorP3
import Derived.ChangeMaps5
import Derived.Deep.SlicePairs
import Derived.ChangeSlices
import Derived.OpenShut
namespace Go.Proofs.YtmibpncmebhbjaaDoor
open Go Go.ChangeShapes Go.WideShapes Go.RowKit

theorem unitsV_cells {us : List Un} {j : Nat} {u : Value} (h : (unitsV us)[j]? = some u) : ∃ i, ∃ hi : i < us.length, (j = i * 2 ∧ u = .string us[i].sign) ∨ (j = i * 2 + 1 ∧ u = .int .i64 us[i].factor) := by
  have hj : j < (unitsV us).length := by
    rcases Nat.lt_or_ge j (unitsV us).length with h' | h'
    · exact h'
    · rw [List.getElem?_eq_none h'] at h; cases h
  rw [unitsV_length] at hj
  have hi : j / 2 < us.length := by omega
  refine ⟨j / 2, hi, ?_⟩
  obtain ⟨g0, g1⟩ := unitsV_get hi
  rcases Nat.mod_two_eq_zero_or_one j with h2 | h2
  · left
    have e : j = j / 2 * 2 := by omega
    rw [← e, h] at g0
    injection g0 with g0
    exact ⟨e, g0⟩
  · right
    have e : j = j / 2 * 2 + 1 := by omega
    rw [← e, h] at g1
    injection g1 with g1
    exact ⟨e, g1⟩

instance : Inhabited Un := ⟨⟨⟨#[]⟩, 0, by decide, by unfold Bd; decide⟩⟩
set_option maxRecDepth 20000 in
theorem open_lad {H : Type} {enc : TypeId × Value → H} {W : World} {b0 : Nat} {r : Reach} {v : Value} {d : DataW H} {ps : List MemPlace} {sp : Nat → Bool} {base : Nat} {held : Bool} (hval : Value.okWide Tryd.prog W r b0 33 v)
    (h : DataW.Trod enc Tryd.prog W base sp held 33 v d ps) :
    ∃ nm us A c, v = .agg #[.string nm, .slice A us.length c] ∧ (nm.size : Int) ≤ 9223372036854775807 ∧ Sl W 2 (.slice A us.length c) (unitsV us) ∧ ((d.weights Tryd.prog 33).all (· ≤ reachBytes) = true → us.length * 24 ≤ 140737488355328) := by
  obtain ⟨cs, rfl, hsz⟩ := okWide_struct Tryd.underlying33 hval
  obtain ⟨fuel, hf⟩ := h
  obtain ⟨y0, y1, n, hx, hl, h0, h1⟩ := trod_struct2 Tryd.underlying33 hf
  have c0 : Tryd.prog.cellsOf 9 = 1 := by kernel_rfl
  have c1 : Tryd.prog.cellsOf 31 = 1 := by kernel_rfl
  have c2 : Tryd.prog.cellsOf 3 = 1 := by kernel_rfl
  have cu : Tryd.prog.cellsOf 78 = 2 := by kernel_rfl
  have cL : Tryd.prog.cellsOf 33 = 2 := by kernel_rfl
  have bU : Tryd.prog.bytesOf 78 = 24 := by kernel_rfl
  rw [cL] at hsz
  simp only [c0, c1] at h0 h1
  obtain ⟨s, e0, x0, hs⟩ := DataW.trod_string Tryd.underlying9 h0
  obtain ⟨cl⟩ := cs
  match cl, hsz with
  | [v0, v1], _ =>
    simp [Value.cells] at e0 h1
    subst e0
    rcases Go.Deep.open_slice_pairs Tryd.underlying31 Tryd.underlying78 cu rfl rfl c0 c2 h1 with ⟨e1, x1⟩ | ⟨a, len, cap, m, n', V0, V1, D0, D1, P0, P1, e1, hb, hlc, hcm, hm, x1, hi⟩
    · simp at e1
      subst e1
      exact ⟨s, [], none, 0, rfl, by unfold maxLen at hs; omega, Sl.nil0 _ _, fun _ => by simp⟩
    · simp at e1
      subst e1
      have hlm : len ≤ m := by rw [hm]; split <;> omega
      have each : ∀ i, i < len → ∃ u : Un, V0 i = .string u.sign ∧ V1 i = .int .i64 u.factor := by
        intro i hil
        obtain ⟨_, _, g0, g1⟩ := hi i (by omega)
        obtain ⟨s', q0, _, hs'⟩ := DataW.trod_string Tryd.underlying9 g0
        obtain ⟨f', q1, _, hf'⟩ := DataW.trod_int Tryd.underlying3 g1
        simp only [List.cons.injEq, and_true] at q0 q1
        refine ⟨⟨s', f', by unfold maxLen at hs'; omega, ?_⟩, q0, q1⟩
        simp only [Lit.wf, Bool.and_eq_true, decide_eq_true_eq] at hf'
        exact hf'
      obtain ⟨U, hU⟩ := Go.Deep.choose_lt each
      refine ⟨s, (List.range len).map U, some a, cap, by simp, by unfold maxLen at hs; omega, ⟨some a, len, cap, by simp, by rw [unitsV_length]; simp, hlc, by unfold maxLen at hcm; omega, fun _ => ⟨a, rfl, fun j u hj => ?_⟩⟩, fun hw => ?_⟩
      · obtain ⟨i, hil, hc⟩ := unitsV_cells hj
        simp only [List.length_map, List.length_range] at hil
        obtain ⟨k0, k1, _, _⟩ := hi i (by omega)
        obtain ⟨u0, u1⟩ := hU i hil
        simp only [List.getElem_map, List.getElem_range] at hc
        rcases hc with ⟨rfl, rfl⟩ | ⟨rfl, rfl⟩
        · rw [k0, u0]
        · rw [k1, u1]
      · simp only [Prod.mk.injEq] at hx
        rw [hx.1, x0, x1] at hw
        simp [DataW.weights, DataW.weightsEach, Tryd.underlying33, Tryd.underlying31, bU, reachBytes] at hw
        simp only [List.length_map, List.length_range]
        have h9 := of_decide_eq_true hw.2.1
        omega
set_option maxRecDepth 20000 in
theorem open_intl {H : Type} {enc : TypeId × Value → H} {W : World} {b0 : Nat} {r : Reach} {v : Value} {d : DataW H} {ps : List MemPlace} {sp : Nat → Bool} {base : Nat} {held : Bool} (hval : Value.okWide Tryd.prog W r b0 75 v)
    (h : DataW.Trod enc Tryd.prog W base sp held 75 v d ps) :
    ∃ (l : List Int) (A : Option Addr) (c : Nat), v = .slice A l.length c ∧ Sl W 1 (.slice A l.length c) (l.map (Value.int .i64)) ∧ (∀ f ∈ l, Bd f) ∧ ((d.weights Tryd.prog 75).all (· ≤ reachBytes) = true → l.length * 8 ≤ 140737488351232) := by
  obtain ⟨A, n, c, rfl⟩ := okWide_slice Tryd.underlying75 hval
  obtain ⟨fuel, hf⟩ := h
  have c2 : Tryd.prog.cellsOf 3 = 1 := by kernel_rfl
  have bI : Tryd.prog.bytesOf 3 = 8 := by kernel_rfl
  rcases Go.Deep.open_slice1 Tryd.underlying75 c2 hf with ⟨e1, x1⟩ | ⟨a, len, cap, m, n', V, D, Pl, e1, hb, hlc, hcm, hm, x1, hi⟩
  · simp [Value.cells] at e1
    obtain ⟨rfl, rfl, rfl⟩ := e1
    exact ⟨[], none, 0, rfl, Sl.nil0 _ _, by simp, fun _ => by simp⟩
  · simp [Value.cells] at e1
    obtain ⟨rfl, rfl, rfl⟩ := e1
    have hlm : n ≤ m := by rw [hm]; split <;> omega
    have each : ∀ i, i < n → ∃ f : Int, V i = .int .i64 f ∧ Bd f := by
      intro i hil
      obtain ⟨_, g1⟩ := hi i (by omega)
      obtain ⟨f', q1, _, hf'⟩ := DataW.trod_int Tryd.underlying3 g1
      simp only [List.cons.injEq, and_true] at q1
      refine ⟨f', q1, ?_⟩
      simp only [Lit.wf, Bool.and_eq_true, decide_eq_true_eq] at hf'
      exact hf'
    obtain ⟨U, hU⟩ := Go.Deep.choose_lt each
    refine ⟨(List.range n).map U, some a, c, by simp, ⟨some a, n, c, by simp, by simp, hlc, by unfold maxLen at hcm; omega, fun _ => ⟨a, rfl, fun j u hj => ?_⟩⟩, fun f hf => ?_, fun hw => ?_⟩
    · have hjn : j < n := by
        rcases Nat.lt_or_ge j n with h' | h'
        · exact h'
        · rw [List.getElem?_eq_none (by simpa using h')] at hj; cases hj
      simp only [List.getElem?_map, List.getElem?_range hjn, Option.map_some, Option.some.injEq] at hj
      rw [(hi j (by omega)).1, (hU j hjn).1, ← hj]
    · obtain ⟨i, hi', rfl⟩ := List.mem_map.1 hf
      exact (hU i (List.mem_range.1 hi')).2
    · simp only [Prod.mk.injEq] at x1
      rw [x1.1] at hw
      simp [DataW.weights, Tryd.underlying75, bI, reachBytes] at hw
      simp only [List.length_map, List.length_range]
      have h9 := of_decide_eq_true hw.1
      omega
set_option maxRecDepth 20000 in
theorem open_pair {H : Type} {enc : TypeId × Value → H} {W : World} {b0 : Nat} {r : Reach} {v : Value} {d : DataW H} {ps : List MemPlace} {sp : Nat → Bool} {base : Nat} {held : Bool} (hval : Value.okWide Tryd.prog W r b0 68 v)
    (h : DataW.Trod enc Tryd.prog W base sp held 68 v d ps) : ∃ m k : Int, v = .agg #[.int .i64 m, .int .i64 k] ∧ Bd m ∧ Bd k := by
  simp only [Value.okWide, Tryd.underlying68] at hval
  obtain ⟨cs, rfl, hsz, _⟩ := hval
  obtain ⟨fuel, hf⟩ := h
  have c2 : Tryd.prog.cellsOf 3 = 1 := by kernel_rfl
  have cA : Tryd.prog.cellsOf 68 = 2 := by kernel_rfl
  rw [cA] at hsz
  obtain ⟨xs, m, _, _, _, hxl, hx⟩ := DataW.trod_array Tryd.underlying68 hf
  rw [c2] at hx
  have h0 := hx 0 (by decide)
  have h1 := hx 1 (by decide)
  obtain ⟨cl⟩ := cs
  match cl, hsz, xs, hxl with
  | [v0, v1], _, [x0, x1], _ =>
    simp [Value.cells] at h0 h1
    obtain ⟨n0, e0, _, w0⟩ := DataW.trod_int Tryd.underlying3 h0
    obtain ⟨n1, e1, _, w1⟩ := DataW.trod_int Tryd.underlying3 h1
    simp only [List.cons.injEq, and_true] at e0 e1
    subst e0
    subst e1
    simp only [Lit.wf, Bool.and_eq_true, decide_eq_true_eq] at w0 w1
    exact ⟨n0, n1, rfl, w0, w1⟩
end Go.Proofs.YtmibpncmebhbjaaDoor
