/- Walks of the reference: Consistent, with, May, Must. Conditions: those stated. Walks of the reference: Lives. Conditions: those stated. -/
import Derived.Test.YtdmcopjbckelmaaGreatDoorZG7
import Derived.Test.YtdmcopjbckelmaaGreatDoorZV3
import Derived.Test.YtdmcopjbckelmaaGreatDoorZV2
namespace Go.Proofs.YtdmcopjbckelmaaGreatDoor
section
open Go Go.RowKit Go.Shelf
attribute [local go_sem] Oper.semAt_some

theorem rcheck_is {r : Int} {A : Option Addr} {n c : Nat} {F : Option Addr} {m d : Nat} {ps : List ByteArray} {fs : List Fa} (hc : checkF ps fs = r) (w : World) (h : NetC w A n c F m d ps fs) (hs : Short ps) :
    Calls Tryz.prog 76 #[.agg #[.slice A n c, .slice F m d]] w fun e w' => e = .returned (.int .i64 r) ∧ Below w.heap.size w w' := by
  rw [← hc]
  exact rcheck_any A n c F m d ps fs w h hs
/-- What solved does, in the program's terms. -/
def RSol2 (ps : List ByteArray) (fs : List Fa) (w : World) (e : Ending) (w' : World) : Prop :=
  Below w.heap.size w w' ∧ ((solveF ps fs = none ∧ e = .returned (.tuple #[.pointer none, .bool false])) ∨ ∃ E M B vs, solveF ps fs = some E ∧ solvedF ps fs = some M ∧ e = .returned (.tuple #[.pointer (some ⟨B, 0, none⟩), .bool true]) ∧ w.heap.size ≤ B ∧ Ls (1 + 2 * ps.length) vs M ∧ Cel w' B 150 vs)
theorem rsolved2 (v vf : Value) (ps : List ByteArray) (fs : List Fa) (w : World) (h : Sl w 1 v (namesV ps)) (hf : Sl w 4 vf (fasV fs)) (hp : ps.length ≤ 24) (hfew : fs.length ≤ 60) (ha : AllAbout ps fs) :
    Calls Tryz.prog 65 #[v, vf] w (RSol2 ps fs w) := by
  refine (rsolved_any v vf ps fs w h hf hp hfew ha).mono ?_
  rintro e w' ⟨hb, h2⟩
  refine ⟨hb, ?_⟩
  rcases h2 with ⟨hq, rfl⟩ | ⟨M, B, vs, hq, rfl, h3, h4, h5⟩
  · exact .inl ⟨(solved_none hp ha).1 hq, rfl⟩
  · have hs := solved_isSome hp ha
    rw [hq] at hs
    cases he : solveF ps fs with
    | none => rw [he] at hs; cases hs
    | some E => exact .inr ⟨E, M, B, vs, rfl, hq, rfl, h3, h4, h5⟩
theorem fol_must {ps : List ByteArray} {fs : List Fa} {f : Fa} {E M : Mat} (hp : ps.length ≤ 24) (ha : AllAbout ps fs) (e : solveF ps fs = some E) (e' : solvedF ps fs = some M) (hf : aboutB ps f = true) : folB M ps f = mustB E ps f := by
  unfold folB mustB refBs
  rw [List.all_map, List.all_eq_not_any_not, Bool.eq_iff_iff]
  have key : (boundsF ps f).any (fun b => !((fun b : Bo => decide (M b.x b.y ≤ b.by_)) ∘ refB) b) = (boundsF ps f).any (overB E) := by
    rw [Bool.eq_iff_iff, List.any_eq_true, List.any_eq_true]
    have each : ∀ b ∈ boundsF ps f, (!((fun b : Bo => decide (M b.x b.y ≤ b.by_)) ∘ refB) b) = overB E b := by
      intro b hb
      obtain ⟨h1, h2⟩ := boundsF_in hf b hb
      have := solved_eq hp ha e e' (rs_lt h1) (rs_lt h2)
      rw [sg_rs, sg_rs] at this
      unfold overB
      rw [Bool.eq_iff_iff, Bool.not_eq_true', decide_eq_true_eq]
      show decide (M (rs b.x) (rs b.y) ≤ b.by_) = false ↔ _
      rw [decide_eq_false_iff_not, this]
      omega
    exact ⟨fun ⟨b, h1, h2⟩ => ⟨b, h1, by rw [← each b h1]; exact h2⟩, fun ⟨b, h1, h2⟩ => ⟨b, h1, by rw [each b h1]; exact h2⟩⟩
  rw [key]
end

section
open Go Go.RowKit Go.Shelf
attribute [local go_sem] Oper.semAt_some

theorem life_one (a b c d : Int) : ∀ u ∈ [Value.int .i64 a, .int .i64 b, .int .i64 c, .int .i64 d], u.oneCell' = true := by
  intro u hu
  simp only [List.mem_cons, List.not_mem_nil, or_false] at hu
  rcases hu with rfl | rfl | rfl | rfl <;> rfl
def livO (n : Nat) (o : Option Mat) : List Value := match o with
  | some D => livesV D n
  | none => []
theorem liv_ok {ps : List ByteArray} {fs : List Fa} (hc : checkF ps fs = 0) : livL ps fs = livO ps.length (solveF ps fs) := by
  unfold livL livO
  rw [hc, if_neg (fun q => q rfl)]
  cases solveF ps fs <;> rfl
end
end Go.Proofs.YtdmcopjbckelmaaGreatDoor
