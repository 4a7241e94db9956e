/- Arguments opened: a network, a fact, years. No condition. -/
import Derived.Test.YtdmcopjbckelmaaGreatDoorZD
import Derived.ChangeMaps5
import Derived.Deep.SlicePairs
import Derived.Deep.Slices
import Derived.Deep.Strs
import Derived.ChangeSlices
import Derived.OpenShut
namespace Go.Proofs.YtdmcopjbckelmaaGreatDoor
open Go Go.ChangeShapes Go.WideShapes Go.RowKit

/-- What a fact's own numbers and strings are. -/
def FaBd (f : Fa) : Prop := Bd f.kind ∧ (f.a.size : Int) ≤ 9223372036854775807 ∧ (f.b.size : Int) ≤ 9223372036854775807 ∧ Bd f.at_
theorem fasV_cells {us : List Fa} {j : Nat} {u : Value} (h : (fasV us)[j]? = some u) : ∃ i, ∃ hi : i < us.length, ∃ t, t < 4 ∧ j = i * 4 + t ∧ (faV us[i])[t]? = some u := by
  have hj : j < (fasV us).length := by
    rcases Nat.lt_or_ge j (fasV us).length with h' | h'
    · exact h'
    · rw [List.getElem?_eq_none h'] at h; cases h
  rw [fasV_length] at hj
  have hi : j / 4 < us.length := by omega
  have e : j = j / 4 * 4 + j % 4 := by omega
  refine ⟨j / 4, hi, j % 4, by omega, e, ?_⟩
  obtain ⟨g0, g1, g2, g3⟩ := fasV_get (List.getElem?_eq_getElem hi)
  have hr : j % 4 = 0 ∨ j % 4 = 1 ∨ j % 4 = 2 ∨ j % 4 = 3 := by omega
  rcases hr with e4 | e4 | e4 | e4
  · rw [e, e4, Nat.add_zero, g0] at h; rw [e4]; exact h
  · rw [e, e4, g1] at h; rw [e4]; exact h
  · rw [e, e4, g2] at h; rw [e4]; exact h
  · rw [e, e4, g3] at h; rw [e4]; exact h
theorem add_add (a : Addr) (i j : Nat) : (a.add i).add j = a.add (i + j) := by
  unfold Addr.add
  by_cases hi : i = 0 <;> by_cases hj : j = 0 <;> simp [hi, hj, Nat.add_assoc]
instance : Inhabited Fa := ⟨⟨0, ⟨#[]⟩, ⟨#[]⟩, 0⟩⟩
section
variable {H : Type} {enc : TypeId × Value → H} {W : World} {sp : Nat → Bool} {base : Nat} {held : Bool}
set_option maxRecDepth 20000 in
/-- A slice of strings, opened. -/
theorem open_strsT {fuel : Nat} {v : Value} {x : DataW H × List MemPlace} (h : DataW.trod enc Tryz.prog W base sp held fuel 22 [v] = some x) : ∃ ns : List ByteArray, Sl W 1 v (namesV ns) ∧ (∀ s ∈ ns, (s.size : Int) ≤ 9223372036854775807) ∧ ((x.1.weights Tryz.prog 22).all (· ≤ reachBytes) = true → ns.length * 16 ≤ 140737488351232) := by
  have bS : Tryz.prog.bytesOf 9 = 16 := by kernel_rfl
  have c0 : Tryz.prog.cellsOf 9 = 1 := by kernel_rfl
  rcases Go.Deep.open_slice1 Tryz.underlying22 c0 h with ⟨e1, x1⟩ | ⟨a, len, cap, m, n', V, D, Pl, e1, hb, hlc, hcm, hm, x1, hi⟩
  · simp at e1
    subst e1
    exact ⟨[], Sl.nil0 _ _, by simp, fun _ => by simp⟩
  · simp at e1
    subst e1
    have hlm : len ≤ m := by rw [hm]; split <;> omega
    have each : ∀ i, i < len → ∃ s : ByteArray, V i = .string s ∧ (s.size : Int) ≤ 9223372036854775807 := by
      intro i hil
      obtain ⟨_, g1⟩ := hi i (by omega)
      obtain ⟨s, q1, _, hs⟩ := DataW.trod_string Tryz.underlying9 g1
      simp only [List.cons.injEq, and_true] at q1
      exact ⟨s, q1, by unfold maxLen at hs; omega⟩
    haveI : Inhabited ByteArray := ⟨⟨#[]⟩⟩
    obtain ⟨U, hU⟩ := Go.Deep.choose_lt each
    refine ⟨(List.range len).map U, ⟨some a, len, cap, rfl, by simp [namesV], hlc, by unfold maxLen at hcm; omega, fun _ => ⟨a, rfl, fun j u hj => ?_⟩⟩, fun s hs => ?_, fun hw => ?_⟩
    · have hjn : j < len := by
        rcases Nat.lt_or_ge j len with h' | h'
        · exact h'
        · rw [List.getElem?_eq_none (by simpa [namesV] using h')] at hj; cases hj
      simp only [namesV, List.getElem?_map, List.getElem?_range hjn, Option.map_some, Option.some.injEq] at hj
      rw [(hi j (by omega)).1, (hU j hjn).1, ← hj]
    · obtain ⟨i, hi', rfl⟩ := List.mem_map.1 hs
      exact (hU i (List.mem_range.1 hi')).2
    · rw [x1] at hw
      simp [DataW.weights, Tryz.underlying22, bS, reachBytes] at hw
      simp only [List.length_map, List.length_range]
      have h9 := of_decide_eq_true hw.1
      omega
set_option maxRecDepth 20000 in
theorem open_faT {fuel : Nat} {v0 v1 v2 v3 : Value} {x : DataW H × List MemPlace} (h : DataW.trod enc Tryz.prog W base sp held fuel 76 [v0, v1, v2, v3] = some x) : ∃ f : Fa, [v0, v1, v2, v3] = faV f ∧ FaBd f := by
  have c2 : Tryz.prog.cellsOf 3 = 1 := by kernel_rfl
  have cs : Tryz.prog.cellsOf 9 = 1 := by kernel_rfl
  obtain ⟨xs, k, _, _, _, hxl, hx⟩ := DataW.trod_struct Tryz.underlying76 h
  have h0 := hx 0 _ rfl
  have h1 := hx 1 _ rfl
  have h2 := hx 2 _ rfl
  have h3 := hx 3 _ rfl
  match xs, hxl with
  | [x0, x1, x2, x3], _ =>
    simp [c2, cs] at h0 h1 h2 h3
    obtain ⟨f0, e0, _, w0⟩ := DataW.trod_int Tryz.underlying3 h0
    obtain ⟨f1, e1, _, w1⟩ := DataW.trod_string Tryz.underlying9 h1
    obtain ⟨f2, e2, _, w2⟩ := DataW.trod_string Tryz.underlying9 h2
    obtain ⟨f3, e3, _, w3⟩ := DataW.trod_int Tryz.underlying3 h3
    simp only [List.cons.injEq, and_true] at e0 e1 e2 e3
    subst e0 e1 e2 e3
    simp only [Lit.wf, Bool.and_eq_true, decide_eq_true_eq] at w0 w3
    exact ⟨⟨f0, f1, f2, f3⟩, rfl, w0, by show (f1.size : Int) ≤ _; unfold maxLen at w1; omega, by show (f2.size : Int) ≤ _; unfold maxLen at w2; omega, w3⟩
set_option maxRecDepth 20000 in
/-- A slice of facts, opened. -/
theorem open_fasT {fuel : Nat} {v : Value} {x : DataW H × List MemPlace} (h : DataW.trod enc Tryz.prog W base sp held fuel 23 [v] = some x) : ∃ fs : List Fa, Sl W 4 v (fasV fs) ∧ (∀ f ∈ fs, FaBd f) ∧ ((x.1.weights Tryz.prog 23).all (· ≤ reachBytes) = true → fs.length * 48 ≤ 140737488351232) := by
  have bF : Tryz.prog.bytesOf 76 = 48 := by kernel_rfl
  have cu : Tryz.prog.cellsOf 76 = 4 := by kernel_rfl
  rcases Go.Deep.open_slice Tryz.underlying23 h with ⟨e1, x1⟩ | ⟨a, n, c, m, n', D, Pl, e1, hb, hlc, hcm, hm, x1, hi⟩
  · simp at e1
    subst e1
    exact ⟨[], Sl.nil0 _ _, by simp, fun _ => by simp⟩
  · simp at e1
    subst e1
    have hlm : n ≤ m := by rw [hm]; split <;> omega
    rw [cu] at hi
    have each : ∀ i, i < n → ∃ u : Fa, (∀ t, t < 4 → W.cell? (a.add (i * 4 + t)) = (faV u)[t]?) ∧ FaBd u := by
      intro i hil
      obtain ⟨cs', g1, g2⟩ := hi i (by omega)
      obtain ⟨_, hlen, hcell⟩ := World.cells?_some g1
      match cs', hlen with
      | [v0, v1, v2, v3], _ =>
        obtain ⟨u, hu, hB⟩ := open_faT g2
        refine ⟨u, fun t ht => ?_, hB⟩
        have q := hcell t ht
        rw [add_add, hu] at q
        exact q
    obtain ⟨U, hU⟩ := Go.Deep.choose_lt each
    refine ⟨(List.range n).map U, ⟨some a, n, c, rfl, by rw [fasV_length]; simp, hlc, by unfold maxLen at hcm; omega, fun _ => ⟨a, rfl, fun j u hj => ?_⟩⟩, fun f hf => ?_, fun hw => ?_⟩
    · obtain ⟨i, hil, t, ht, rfl, hc⟩ := fasV_cells hj
      simp only [List.length_map, List.length_range] at hil
      rw [(hU i hil).1 t ht]
      simpa using hc
    · obtain ⟨i, hi', rfl⟩ := List.mem_map.1 hf
      exact (hU i (List.mem_range.1 hi')).2
    · rw [x1] at hw
      simp [DataW.weights, Tryz.underlying23, bF, reachBytes] at hw
      simp only [List.length_map, List.length_range]
      have h9 := of_decide_eq_true hw.1
      omega
set_option maxRecDepth 20000 in
/-- A slice of ints, opened. -/
theorem open_intsT {fuel : Nat} {v : Value} {x : DataW H × List MemPlace} (h : DataW.trod enc Tryz.prog W base sp held fuel 47 [v] = some x) : ∃ l : List Int, Sl W 1 v (l.map (Value.int .i64)) ∧ ∀ f ∈ l, Bd f := by
  have c2 : Tryz.prog.cellsOf 3 = 1 := by kernel_rfl
  rcases Go.Deep.open_slice1 Tryz.underlying47 c2 h with ⟨e1, x1⟩ | ⟨a, n, c, m, n', V, D, P, e1, hb, hlc, hcm, hm, x1, hi⟩
  · simp at e1
    subst e1
    exact ⟨[], Sl.nil0 _ _, by simp⟩
  · simp at e1
    subst e1
    have hlm : n ≤ m := by rw [hm]; split <;> omega
    have each : ∀ i, i < n → ∃ f : Int, V i = .int .i64 f ∧ Bd f := by
      intro i hil
      obtain ⟨_, g1⟩ := hi i (by omega)
      obtain ⟨f', q1, _, hf'⟩ := DataW.trod_int Tryz.underlying3 g1
      simp only [List.cons.injEq, and_true] at q1
      refine ⟨f', q1, ?_⟩
      simp only [Lit.wf, Bool.and_eq_true, decide_eq_true_eq] at hf'
      exact hf'
    obtain ⟨U, hU⟩ := Go.Deep.choose_lt each
    refine ⟨(List.range n).map U, ⟨some a, n, c, rfl, by simp, hlc, by unfold maxLen at hcm; omega, fun _ => ⟨a, rfl, fun j u hj => ?_⟩⟩, fun f hf => ?_⟩
    · have hjn : j < n := by
        rcases Nat.lt_or_ge j n with h' | h'
        · exact h'
        · rw [List.getElem?_eq_none (by simpa using h')] at hj; cases hj
      simp only [List.getElem?_map, List.getElem?_range hjn, Option.map_some, Option.some.injEq] at hj
      rw [(hi j (by omega)).1, (hU j hjn).1, ← hj]
    · obtain ⟨i, hi', rfl⟩ := List.mem_map.1 hf
      exact (hU i (List.mem_range.1 hi')).2
end
set_option maxRecDepth 20000 in
theorem open_net {H : Type} {enc : TypeId × Value → H} {W : World} {b0 : Nat} {r : Reach} {v : Value} {d : DataW H} {ps : List MemPlace} {sp : Nat → Bool} {base : Nat} {held : Bool} (hval : Value.okWide Tryz.prog W r b0 25 v)
    (h : DataW.Trod enc Tryz.prog W base sp held 25 v d ps) :
    ∃ A n c F m k ns fs, v = .agg #[.slice A n c, .slice F m k] ∧ NetC W A n c F m k ns fs ∧ Short ns ∧ (∀ f ∈ fs, FaBd f) ∧ ((d.weights Tryz.prog 25).all (· ≤ reachBytes) = true → ns.length * 16 ≤ 140737488351232 ∧ fs.length * 48 ≤ 140737488351232) := by
  obtain ⟨cs, rfl, hsz⟩ := okWide_struct Tryz.underlying25 hval
  obtain ⟨fuel, hf⟩ := h
  obtain ⟨y0, y1, n, hx, hl, h0, h1⟩ := trod_struct2 Tryz.underlying25 hf
  have c0 : Tryz.prog.cellsOf 22 = 1 := by kernel_rfl
  have c1 : Tryz.prog.cellsOf 23 = 1 := by kernel_rfl
  have cL : Tryz.prog.cellsOf 25 = 2 := by kernel_rfl
  rw [cL] at hsz
  simp only [c0, c1] at h0 h1
  obtain ⟨cl⟩ := cs
  match cl, hsz with
  | [v0, v1], _ =>
    simp [Value.cells] at h0 h1
    obtain ⟨ns, k1, k2, k3⟩ := open_strsT h0
    obtain ⟨fs, q1, q2, q3⟩ := open_fasT h1
    obtain ⟨A, n, c, rfl, _⟩ := id k1
    obtain ⟨F, m, k, rfl, _⟩ := id q1
    refine ⟨A, n, c, F, m, k, ns, fs, rfl, ⟨k1, q1⟩, k2, q2, fun hw => ?_⟩
    simp only [Prod.mk.injEq] at hx
    rw [hx.1] at hw
    simp only [DataW.weights, Tryz.underlying25, List.map_cons, List.map_nil, DataW.weightsEach, List.all_append, Bool.and_eq_true] at hw
    exact ⟨k3 hw.1, q3 hw.2.1⟩
set_option maxRecDepth 20000 in
theorem open_fact {H : Type} {enc : TypeId × Value → H} {W : World} {b0 : Nat} {r : Reach} {v : Value} {d : DataW H} {ps : List MemPlace} {sp : Nat → Bool} {base : Nat} {held : Bool} (hval : Value.okWide Tryz.prog W r b0 76 v)
    (h : DataW.Trod enc Tryz.prog W base sp held 76 v d ps) : ∃ f : Fa, v = faA f ∧ FaBd f := by
  obtain ⟨cs, rfl, hsz⟩ := okWide_struct Tryz.underlying76 hval
  obtain ⟨fuel, hf⟩ := h
  have cL : Tryz.prog.cellsOf 76 = 4 := by kernel_rfl
  rw [cL] at hsz
  obtain ⟨cl⟩ := cs
  match cl, hsz with
  | [v0, v1, v2, v3], _ =>
    obtain ⟨u, hu, hB⟩ := open_faT hf
    unfold faV at hu
    simp only [List.cons.injEq, and_true] at hu
    obtain ⟨rfl, rfl, rfl, rfl⟩ := hu
    exact ⟨u, rfl, hB⟩
end Go.Proofs.YtdmcopjbckelmaaGreatDoor
