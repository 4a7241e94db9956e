/- Slices of slices. -/
import Derived.Test.YtmibpncmebhbjaaDoorP6
namespace Go.Proofs.YtmibpncmebhbjaaDoor
open Go Go.RowKit Go.Shelf

theorem Sl.to {w : World} {s n c : Nat} {A : Option Addr} {xs : List Value} (h : Sl w s (.slice A n c) xs) {k : Nat} (hk : k ≤ n) : Sl w s (sliced A 0 k c s) (xs.take (k * s)) := by
  obtain ⟨A', n', c', e, hl, hc, hm, hcell⟩ := h
  injection e with e1 e2 e3
  subst e1 e2 e3
  have hks : k * s ≤ n * s := Nat.mul_le_mul_right s hk
  refine ⟨if c = 0 then A else A.map (·.add (0 * s)), k - 0, c - 0, rfl, by rw [List.length_take, Nat.min_eq_left (by omega), Nat.sub_zero], by omega, by simpa using hm, fun h0 => ?_⟩
  obtain ⟨ad, rfl, hj⟩ := hcell (by omega)
  refine ⟨ad, ?_, fun j u hu => hj j u ?_⟩
  · rw [Nat.zero_mul]; simp [add_zero']
  · have hlt : j < k * s := by
      rcases Nat.lt_or_ge j (k * s) with h' | h'
      · exact h'
      · rw [List.getElem?_eq_none (by rw [List.length_take]; omega)] at hu; cases hu
    rwa [List.getElem?_take_of_lt hlt] at hu
theorem Sl.from {w : World} {s n c : Nat} {A : Option Addr} {xs : List Value} (h : Sl w s (.slice A n c) xs) {k : Nat} (hk : k ≤ n) : Sl w s (sliced A k n c s) (xs.drop (k * s)) := by
  obtain ⟨A', n', c', e, hl, hc, hm, hcell⟩ := h
  injection e with e1 e2 e3
  subst e1 e2 e3
  refine ⟨if c = k then A else A.map (·.add (k * s)), n - k, c - k, rfl, by rw [List.length_drop, hl, Nat.sub_mul], by omega, by omega, fun h0 => ?_⟩
  obtain ⟨ad, rfl, hj⟩ := hcell (by omega)
  refine ⟨ad.add (k * s), by rw [if_neg (by omega)]; rfl, fun j u hu => ?_⟩
  rw [List.getElem?_drop] at hu
  rw [add_add]
  exact hj _ u hu
theorem ratU : Tryd.prog.underlying 94 = some (.slice (Tryd.prog.elem 94)) := by kernel_rfl
theorem ratZ (w : World) : (sizeOf (Tryd.prog.elem 94)).run Tryd.prog w = .ok 2 w := by kernel_rfl
theorem rat_to (A : Option Addr) (n c k : Nat) (hk : k ≤ c) (w : World) : (Instr.slice 94 (.slice A n c) none (some (.int .i64 (k : Int))) none).run Tryd.prog w = .ok (sliced A 0 k c 2) w := by
  rw [run_slice_h (P := Tryd.prog) (t := 94) (a := A) (len := n) (cap := c) (ht := ratU) (kh := .i64) (h := (k : Int)) (h0 := by omega) (h2 := by omega)]
  rw [ratZ]; rfl
theorem rat_from (A : Option Addr) (n c k : Nat) (hk : k ≤ n) (w : World) : (Instr.slice 94 (.slice A n c) (some (.int .i64 (k : Int))) none none).run Tryd.prog w = .ok (sliced A k n c 2) w := by
  rw [run_slice_l (P := Tryd.prog) (t := 94) (a := A) (len := n) (cap := c) (ht := ratU) (kl := .i64) (l := (k : Int)) (h0 := by omega) (h1 := by omega)]
  rw [ratZ]; rfl
end Go.Proofs.YtmibpncmebhbjaaDoor
