/- The walks of Bring and of valid, the statements' own ladders. Condition: numbers are ints. -/
import Derived.Test.YtmibpncmebhbjaaDoorP6
import Derived.Test.YtmibpncmebhbjaaDoorVal1
import Derived.Test.YtmibpncmebhbjaaDoorRef5
namespace Go.Proofs.YtmibpncmebhbjaaDoor
open Go Go.RowKit Go.Shelf
attribute [local go_sem] Oper.semAt_some

theorem tmod_cases {n m : Int} (h : n < 0) (hm : 1 ≤ m) : (n.tmod m < 0 ∧ n.tmod m + m = n % m) ∨ (n.tmod m = 0 ∧ n.tmod m = n % m) := by
  have e := Int.mul_ediv_add_emod n m
  have e' := Int.mul_tdiv_add_tmod n m
  rcases quo_neg h hm with ⟨h1, h2⟩ | ⟨h1, h2⟩
  · left
    refine ⟨h1, ?_⟩
    rw [h2, Int.mul_add] at e'
    omega
  · right
    refine ⟨h1, ?_⟩
    rw [h2] at e'
    omega
set_option maxRecDepth 100000 in
set_option maxHeartbeats 400000 in
theorem bring_any (n m : Int) (w : World) (h1 : -9223372036854775808 ≤ n) (h2 : n ≤ 9223372036854775807) (h3 : -9223372036854775808 ≤ m) (h4 : m ≤ 9223372036854775807) :
    Calls Tryd.prog 36 #[.int .i64 n, .int .i64 m] w fun e w' => e = .returned (.int .i64 (bringF n m)) ∧ w = w' := by
  by_cases hm : m < 1
  · have HF := Lib.hid (show bringF n m = 0 from if_pos hm)
    go_enter Tryd.func36, Tryd.ntmps36
    go_wp2
    go_ret
    exact ⟨by rw [HF.out] <;> rfl, rfl⟩
  · have HF := Lib.hid (show bringF n m = n % m from if_neg hm)
    have hm0 : ¬ m = 0 := by omega
    have d0 : decide (m < 1) = false := decide_eq_false hm
    by_cases hn : 0 ≤ n
    · have b1 := Int.emod_nonneg n hm0
      have b2 := Int.emod_lt_of_pos n (show 0 < m by omega)
      go_enter Tryd.func36, Tryd.ntmps36
      go_wp2
      go_ret
      exact ⟨by rw [HF.out] <;> rfl, rfl⟩
    · have b1 := Int.emod_nonneg n hm0
      have b2 := Int.emod_lt_of_pos n (show 0 < m by omega)
      have HN := Lib.hid hn
      rcases tmod_cases (n := n) (m := m) (by omega) (by omega) with ⟨t1, t2⟩ | ⟨t1, t2⟩
      · have HT := Lib.hid t2
        have b3 : -m ≤ n.tmod m := by omega
        clear hn
        go_enter Tryd.func36, Tryd.ntmps36
        go_wp2
        go_ret
        exact ⟨by rw [HF.out, ← HT.out] <;> rfl, rfl⟩
      · have HT := Lib.hid t2
        have HT1 := Lib.hid t1
        have b3 : decide (n.tmod m < 0) = false := decide_eq_false (by omega)
        clear t1 t2
        go_enter Tryd.func36, Tryd.ntmps36
        go_wp2
        go_ret
        exact ⟨by rw [HF.out, ← HT.out] <;> rfl, rfl⟩
end Go.Proofs.YtmibpncmebhbjaaDoor
