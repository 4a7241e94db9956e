/- Arguments opened: three strings. No condition. -/
import Derived.Test.YtdmcopjbckelmaaDoorZO
namespace Go.Proofs.YtdmcopjbckelmaaDoor
open Go Go.ChangeShapes Go.WideShapes Go.RowKit
set_option maxRecDepth 20000 in
theorem open_trips {H : Type} {enc : TypeId × Value → H} {W : World} {b0 : Nat} {r : Reach} {v : Value} {d : DataW H} {ps : List MemPlace} {sp : Nat → Bool} {base : Nat} {held : Bool} (hval : Value.okWide Tryd.prog W r b0 72 v)
    (h : DataW.Trod enc Tryd.prog W base sp held 72 v d ps) : ∃ m k l : ByteArray, v = .agg #[.string m, .string k, .string l] := by
  simp only [Value.okWide, Tryd.underlying72] at hval
  obtain ⟨cs, rfl, hsz, _⟩ := hval
  obtain ⟨fuel, hf⟩ := h
  have c2 : Tryd.prog.cellsOf 9 = 1 := by kernel_rfl
  have cA : Tryd.prog.cellsOf 72 = 3 := by kernel_rfl
  rw [cA] at hsz
  obtain ⟨xs, m, _, _, _, hxl, hx⟩ := DataW.trod_array Tryd.underlying72 hf
  rw [c2] at hx
  have h0 := hx 0 (by decide)
  have h1 := hx 1 (by decide)
  have h2 := hx 2 (by decide)
  obtain ⟨cl⟩ := cs
  match cl, hsz, xs, hxl with
  | [v0, v1, v2], _, [x0, x1, x2], _ =>
    simp [Value.cells] at h0 h1 h2
    obtain ⟨n0, e0, _⟩ := DataW.trod_string Tryd.underlying9 h0
    obtain ⟨n1, e1, _⟩ := DataW.trod_string Tryd.underlying9 h1
    obtain ⟨n2, e2, _⟩ := DataW.trod_string Tryd.underlying9 h2
    simp only [List.cons.injEq, and_true] at e0 e1 e2
    subst e0
    subst e1
    subst e2
    exact ⟨n0, n1, n2, rfl⟩
end Go.Proofs.YtdmcopjbckelmaaDoor
