/- The reference's EqTexts on equal lists; slices of bridges. -/
import Derived.Test.YtmibpncmebhbjaaDoorSlc
import Derived.Test.YtmibpncmebhbjaaDoorNam1
namespace Go.Proofs.YtmibpncmebhbjaaDoor
open Go Go.RowKit Go.Shelf

set_option maxRecDepth 100000 in
set_option maxHeartbeats 1000000 in
theorem eqTexts_same (a b : Value) (l : List ByteArray) (w : World) (ha : Sl w 1 a (namesV l)) (hb : Sl w 1 b (namesV l)) :
    Calls Tryd.prog 51 #[a, b] w fun e w' => e = .returned (.bool true) ∧ Below w.heap.size w w' := by
  obtain ⟨A, c, rfl, hlc, hcm, hcell⟩ := ha.open1
  obtain ⟨A', c', rfl, hlc', hcm', hcell'⟩ := hb.open1
  simp only [namesV_length] at *
  go_enter Tryd.func51, Tryd.ntmps51
  have HC := Lib.hid hcell
  have HC' := Lib.hid hcell'
  clear hcell hcell'
  go_wp2
  go_loopw [5] (fun t wr => ∃ k : Nat, t = .int .i64 k ∧ k ≤ l.length ∧ Below w.heap.size w wr) (fun t _ => l.length - (intOf t).toNat)
  case atStart => exact ⟨0, rfl, by omega, Below.refl _ _⟩
  case round =>
    obtain ⟨k, rfl, hk, hB⟩ := hrel
    by_cases hlt : k < l.length
    · obtain ⟨ad, rfl, h1⟩ := HC.out k (.string l[k]) (by simp [namesV, hlt])
      obtain ⟨ad', rfl, h2⟩ := HC'.out k (.string l[k]) (by simp [namesV, hlt])
      have e1 := below_cell hB h1
      have e2 := below_cell hB h2
      clear h1 h2
      generalize l[k] = x at *
      have b2 : (x == x) = true := by rw [bytes_beq]; simp
      go_wp2
      go_quiet (fail)
      go_wp2
      go_roundw
      case rel => exact ⟨k + 1, by simp, hlt, below_drewN hB _⟩
      case measure => simp [intOf]; omega
    · go_wp2
      go_ret
      exact ⟨rfl, hB⟩
theorem briU : Tryd.prog.underlying 43 = some (.slice (Tryd.prog.elem 43)) := by kernel_rfl
theorem briZ (w : World) : (sizeOf (Tryd.prog.elem 43)).run Tryd.prog w = .ok 6 w := by kernel_rfl
theorem bri_to (A : Option Addr) (n c k : Nat) (hk : k ≤ c) (w : World) : (Instr.slice 43 (.slice A n c) none (some (.int .i64 (k : Int))) none).run Tryd.prog w = .ok (sliced A 0 k c 6) w := by
  rw [run_slice_h (P := Tryd.prog) (t := 43) (a := A) (len := n) (cap := c) (ht := briU) (kh := .i64) (h := (k : Int)) (h0 := by omega) (h2 := by omega)]
  rw [briZ]; rfl
theorem bri_from (A : Option Addr) (n c k : Nat) (hk : k ≤ n) (w : World) : (Instr.slice 43 (.slice A n c) (some (.int .i64 (k : Int))) none none).run Tryd.prog w = .ok (sliced A k n c 6) w := by
  rw [run_slice_l (P := Tryd.prog) (t := 43) (a := A) (len := n) (cap := c) (ht := briU) (kl := .i64) (l := (k : Int)) (h0 := by omega) (h1 := by omega)]
  rw [briZ]; rfl
end Go.Proofs.YtmibpncmebhbjaaDoor
