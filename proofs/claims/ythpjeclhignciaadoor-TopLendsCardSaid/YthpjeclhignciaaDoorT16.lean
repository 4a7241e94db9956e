/- Walks of the package ledger: the closures of owed. Conditions: those stated. -/
import Derived.Test.YthpjeclhignciaaDoorT15
namespace Go.Proofs.YthpjeclhignciaaDoor
open Go Go.RowKit Go.Shelf
attribute [local go_sem] Oper.semAt_some rrV

theorem grown_set (W : World) (B k : Nat) (v : Value) : W.grownBy (W.setCell ⟨B, k, none⟩ v) (some B) := by
  refine ⟨rfl, rfl, rfl, by simp, fun i _ hi => ?_⟩
  have e : B ≠ i := fun e => hi (by rw [e])
  simp only [World.setCell, Array.getElem?_modify]; rw [if_neg e]
set_option maxRecDepth 100000 in
set_option maxHeartbeats 1000000 in
theorem try_any (N D f : Int) (Be : Nat) (w : World) (he : Cel w Be 34 #[.int .i64 0]) :
    Calls Tryd.prog 31 #[.agg #[.int .i64 N, .int .i64 D], .int .i64 f, .pointer (some ⟨Be, 0, none⟩)] w fun e w' => e = .returned (.agg #[.int .i64 N, .int .i64 D]) ∧ Cel w' Be 34 #[.int .i64 f] ∧ w.grownBy w' (some Be) := by
  have hlt := he.lt
  have e0 := he.cell 0 _ rfl
  have f0 := he.frozen 0
  go_enter Tryd.func31, Tryd.ntmps31
  go_wp2
  exact bodyPost_ret (v := .agg #[.int .i64 N, .int .i64 D]) (by simp [results, Tryd.results31, go_sem]) rfl
    ⟨rfl, ((he.set1 _).alloc _).alloc _, ((grown_set w Be 0 _).trans (World.grownBy_alloc _ _ _)).trans (World.grownBy_alloc _ _ _)⟩
end Go.Proofs.YthpjeclhignciaaDoor
