/- The walk of lent: an example. Condition: metro's variable zero is 0/1. -/
import Derived.Test.YthpjeclhignciaaDoorT19
namespace Go.Proofs.YthpjeclhignciaaDoor
open Go Go.RowKit Go.Shelf
attribute [local go_sem] Oper.semAt_some rrV

def bUr : ByteArray := ⟨#[117, 114]⟩
def bA : ByteArray := ⟨#[97]⟩
def bB : ByteArray := ⟨#[98]⟩
def yA : Yr := ⟨0, bA, 4095, 0⟩
def yB : Yr := ⟨0, bB, 4095, 0⟩
theorem lent_cal : calB [bUr] [yA, yB] = true := by decide +kernel
theorem lent_m0 : (mos [yA, yB])[0]? = some ⟨0, 1, false, 1, 30⟩ := by kernel_rfl
theorem lent_m6 : (mos [yA, yB])[6]? = some ⟨0, 7, false, 181, 30⟩ := by kernel_rfl
theorem lent_n0 : numF 0 1 false (mos [yA, yB]) 0 = some (1, ⟨0, 1, false, 1, 30⟩) := by kernel_rfl
theorem lent_n6 : numF 0 7 false (mos [yA, yB]) 0 = some (7, ⟨0, 7, false, 181, 30⟩) := by kernel_rfl
theorem lent_a : InC [bUr] [yA, yB] ⟨0, 1, false, 1⟩ 0 ⟨0, 1, false, 1, 30⟩ := ⟨lent_cal, lent_m0, rfl, rfl, rfl, by decide, by decide, lent_n0⟩
theorem lent_b : InC [bUr] [yA, yB] ⟨0, 7, false, 1⟩ 6 ⟨0, 7, false, 181, 30⟩ := ⟨lent_cal, lent_m6, rfl, rfl, rfl, by decide, by decide, lent_n6⟩
theorem lent_s : schemeF 0 6 ⟨0, 1, false, 1⟩ ⟨0, 7, false, 1⟩ = 180 := by decide
theorem lent_i : fit (intQ 60 1 1 5 180) = ⟨6, 1, 0⟩ := by kernel_rfl
theorem lent_p : nnR (60, 1) = true := by decide +kernel
theorem lent_r : nnR (1, 5) = true := by decide +kernel
theorem lent_calw (w : World) : CalW ((w.alloc (.cells #[.string ⟨#[117, 114]⟩] 9)).alloc (.cells #[.int .i64 0, .string ⟨#[97]⟩, .int .i64 4095, .int .i64 0, .int .i64 0, .string ⟨#[98]⟩, .int .i64 4095, .int .i64 0] 51)) (.agg #[.slice (some ⟨w.heap.size, 0, none⟩) 1 1, .slice (some ⟨w.heap.size + 1, 0, none⟩) 2 2]) [bUr] [yA, yB] := by
  refine ⟨⟨_, _, _, _, _, _, rfl, ?_, ?_⟩, ?_, ?_⟩
  · exact (Sl.new (s := 1) w 9 1 1 #[.string ⟨#[117, 114]⟩] rfl (by omega) (by omega)).alloc _
  · have := Sl.new (s := 4) (w.alloc (.cells #[.string ⟨#[117, 114]⟩] 9)) 51 2 2 #[.int .i64 0, .string ⟨#[97]⟩, .int .i64 4095, .int .i64 0, .int .i64 0, .string ⟨#[98]⟩, .int .i64 4095, .int .i64 0] rfl (by omega) (by omega)
    simp only [World.size_alloc] at this
    exact this
  · intro s hs
    simp at hs
    subst hs
    decide
  · intro y hy
    simp at hy
    rcases hy with rfl | rfl <;> exact ⟨by unfold Bd; decide, by decide, by unfold Bd; decide, by unfold Bd; decide⟩

set_option maxRecDepth 100000 in
set_option maxHeartbeats 2000000 in
theorem lent_any (w : World) (hz : Zw w) : Calls Tryd.prog 5 #[] w fun e w' => e = .returned (.bool true) ∧ Below w.heap.size w w' := by
  have hB0 : Below w.heap.size w (((w.alloc (.cells #[.string ⟨#[117, 114]⟩] 9)).alloc (.cells #[.int .i64 0, .string ⟨#[97]⟩, .int .i64 4095, .int .i64 0, .int .i64 0, .string ⟨#[98]⟩, .int .i64 4095, .int .i64 0] 51)).alloc (.cells #[.slice (some ⟨w.heap.size, 0, none⟩) 1 1, .slice (some ⟨w.heap.size + 1, 0, none⟩) 2 2] 25)) := ((below_alloc' _ _).alloc (by simp) _).alloc (by simp; omega) _
  have hc := (lent_calw w).below (below_alloc' _ (.cells #[.slice (some ⟨w.heap.size, 0, none⟩) 1 1, .slice (some ⟨w.heap.size + 1, 0, none⟩) 2 2] 25))
  have hs := Scheme_yes _ [bUr] [yA, yB] ⟨0, 1, false, 1⟩ ⟨0, 7, false, 1⟩ 0 6 _ _ _ hc lent_a lent_b
  rw [lent_s] at hs
  simp only [dtA] at hs
  have hi := fun w' (h : Zw w') => Interest_any 60 1 1 5 180 w' h lent_p lent_r (by decide) (by decide)
  rw [lent_i] at hi
  have HS := Lib.hid hs
  have HI := Lib.hid hi
  have HZ := Lib.hid (hz.below hB0)
  clear hs hi hz hc
  go_enter Tryd.func5, Tryd.ntmps5
  go_wp2_with (first
    | (go_at_call 8; refine HS.out.mono ?_; rintro e w1 ⟨rfl, hb1⟩)
    | (go_at_call 9; refine (HI.out _ (HZ.out.below hb1)).mono ?_; rintro e w2 ⟨rfl, hb2⟩))
  go_ret
  exact ⟨rfl, (below_then (below_then hB0 hb1) hb2).alloc (by have := hB0.size; have := hb1.size; have := hb2.size; omega) _⟩
end Go.Proofs.YthpjeclhignciaaDoor
