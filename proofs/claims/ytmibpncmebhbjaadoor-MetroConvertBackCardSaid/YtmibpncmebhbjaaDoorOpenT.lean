/- Arguments opened: three ints. -/
import Derived.Test.YtmibpncmebhbjaaDoorP3
import Derived.ChangeMaps5
import Derived.Deep.SlicePairs
import Derived.ChangeSlices
import Derived.OpenShut
import Derived.Test.YtmibpncmebhbjaaDoorOpenP
namespace Go.Proofs.YtmibpncmebhbjaaDoor
open Go Go.ChangeShapes Go.WideShapes Go.RowKit
set_option maxRecDepth 20000 in
theorem open_trip {H : Type} {enc : TypeId × Value → H} {W : World} {b0 : Nat} {r : Reach} {v : Value} {d : DataW H} {ps : List MemPlace} {sp : Nat → Bool} {base : Nat} {held : Bool} (hval : Value.okWide Tryd.prog W r b0 41 v)
    (h : DataW.Trod enc Tryd.prog W base sp held 41 v d ps) : ∃ m k l : Int, v = .agg #[.int .i64 m, .int .i64 k, .int .i64 l] ∧ Bd m ∧ Bd k ∧ Bd l := by
  simp only [Value.okWide, Tryd.underlying41] at hval
  obtain ⟨cs, rfl, hsz, _⟩ := hval
  obtain ⟨fuel, hf⟩ := h
  have c2 : Tryd.prog.cellsOf 3 = 1 := by kernel_rfl
  have cA : Tryd.prog.cellsOf 41 = 3 := by kernel_rfl
  rw [cA] at hsz
  obtain ⟨xs, m, _, _, _, hxl, hx⟩ := DataW.trod_array Tryd.underlying41 hf
  rw [c2] at hx
  have h0 := hx 0 (by decide)
  have h1 := hx 1 (by decide)
  have h2 := hx 2 (by decide)
  obtain ⟨cl⟩ := cs
  match cl, hsz, xs, hxl with
  | [v0, v1, v2], _, [x0, x1, x2], _ =>
    simp [Value.cells] at h0 h1 h2
    obtain ⟨n0, e0, _, w0⟩ := DataW.trod_int Tryd.underlying3 h0
    obtain ⟨n1, e1, _, w1⟩ := DataW.trod_int Tryd.underlying3 h1
    obtain ⟨n2, e2, _, w2⟩ := DataW.trod_int Tryd.underlying3 h2
    simp only [List.cons.injEq, and_true] at e0 e1 e2
    subst e0
    subst e1
    subst e2
    simp only [Lit.wf, Bool.and_eq_true, decide_eq_true_eq] at w0 w1 w2
    exact ⟨n0, n1, n2, rfl, w0, w1, w2⟩
end Go.Proofs.YtmibpncmebhbjaaDoor
