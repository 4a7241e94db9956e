/- MetroKnown: limits. -/
import Derived.Test.YtmibpncmebhbjaaDoorKno1
namespace Go.Proofs.YtmibpncmebhbjaaDoor
open Go Go.RowKit Go.Shelf
attribute [local go_sem] Oper.semAt_some rrV

def prL : List (Int × Int) := [(1099511627776, 1), (1099511627776, 1), (1, 1048576), (1, 1048576), (1, 1048576), (1, 1048576)]
set_option maxRecDepth 100000 in
set_option maxHeartbeats 4000000 in
theorem limits_any (w : World) (hz : Zw w) : Calls Tryd.prog 85 #[] w fun e w' => e = .returned (.bool true) ∧ Below w.heap.size w w' := by
  have hb0 := Below.refl w.heap.size w
  have HZ := Lib.hid (fun (w' : World) (hb : Below w.heap.size w w') => hz.below hb)
  have KA : Hid (∀ w', Below w.heap.size w w' → Calls Tryd.prog 39 #[.agg #[.int .i64 1099511627776, .int .i64 1], .agg #[.int .i64 1, .int .i64 1048576]] w' fun e w'' => e = .returned (rrV ⟨0, 0, 6⟩) ∧ Below w'.heap.size w' w'') := fun w' hb => by
    have := add_any 1099511627776 1 1 1048576 w' (HZ.out w' hb) (by unfold Bd; decide) (by unfold Bd; decide) (by unfold Bd; decide) (by unfold Bd; decide)
    rwa [kn_add] at this
  have KM : Hid (∀ w', Below w.heap.size w w' → Calls Tryd.prog 63 #[.agg #[.int .i64 1099511627776, .int .i64 1], .agg #[.int .i64 2, .int .i64 1]] w' fun e w'' => e = .returned (rrV ⟨0, 0, 6⟩) ∧ Below w'.heap.size w' w'') := fun w' hb => by
    have := mul_any 1099511627776 1 2 1 w' (HZ.out w' hb) (by unfold Bd; decide) (by unfold Bd; decide) (by unfold Bd; decide) (by unfold Bd; decide)
    rwa [kn_mul] at this
  have KP : Hid (∀ v w', Below w.heap.size w w' → Sl w' 2 v (rsV prL) → Calls Tryd.prog 60 #[v] w' fun e w'' => e = .returned (rrV ⟨1, 1, 0⟩) ∧ Below w'.heap.size w' w'') := fun v w' hb hs => by
    have := mProduct_any prL v w' (HZ.out w' hb) hs (by unfold BdL prL Bd; decide)
    rwa [show prodE prL = ⟨1, 1, 0⟩ from kn_prod] at this
  have KV : Hid (∀ v w', Below w.heap.size w w' → LadV w' v longN longU → Calls Tryd.prog 29 #[v, .string ⟨#[105]⟩] w' fun e w'' => e = .returned (.tuple #[.int .i64 1099511627776, .int .i64 0]) ∧ Below w'.heap.size w' w'') := fun v w' _ h => by
    have := value_any longN (by decide) v longU ⟨#[105]⟩ w' h
    rwa [kn_value] at this
  have KCO : Hid (∀ v w', Below w.heap.size w w' → LadV w' v longN (longU ++ [unC 106 2]) → Calls Tryd.prog 31 #[v] w' fun e w'' => e = .returned (.int .i64 10) ∧ Below w'.heap.size w' w'') := fun v w' _ h => by
    have := check_any longN (by decide) v (longU ++ [unC 106 2]) w' h
    rwa [kn_over] at this
  have KCH : Hid (∀ w', Below w.heap.size w w' → Calls Tryd.prog 31 #[.agg #[.string ⟨#[]⟩, .slice none 0 0]] w' fun e w'' => e = .returned (.int .i64 10) ∧ Below w'.heap.size w' w'') := fun w' _ => by
    have := check_any ⟨#[]⟩ (by decide) (.agg #[.string ⟨#[]⟩, .slice none 0 0]) [] w' ⟨_, _, _, rfl, Sl.nil0 _ _⟩
    rwa [kn_empty] at this
  clear hz
  have HB0 := Lib.hid (Below.refl w.heap.size w)
  clear hb0
  go_enter Tryd.func85, Tryd.ntmps85
  have HB1 := Lib.hid (HB0.out.alloc HB0.out.size (.cells #[.int .i64 1099511627776, .int .i64 1] 23))
  have HM1 : Hid (∀ w', Below (w.alloc (.cells #[.int .i64 1099511627776, .int .i64 1] 23)).heap.size (w.alloc (.cells #[.int .i64 1099511627776, .int .i64 1] 23)) w' → w'.cell? ⟨w.heap.size, 0, none⟩ = some (.int .i64 1099511627776) ∧ w'.cell? ⟨w.heap.size, 1, none⟩ = some (.int .i64 1)) := fun w' h => by
    exact ⟨below_cell h ((Cel.at w (w.heap.size) 23 #[.int .i64 1099511627776, .int .i64 1] (by simp)).cell 0 _ rfl), below_cell h ((Cel.at w (w.heap.size) 23 #[.int .i64 1099511627776, .int .i64 1] (by simp)).cell 1 _ rfl)⟩
  have HB2 := Lib.hid (HB1.out.alloc HB1.out.size (.cells #[.int .i64 1, .int .i64 1048576] 23))
  have HM2 : Hid (∀ w', Below ((w.alloc (.cells #[.int .i64 1099511627776, .int .i64 1] 23)).alloc (.cells #[.int .i64 1, .int .i64 1048576] 23)).heap.size ((w.alloc (.cells #[.int .i64 1099511627776, .int .i64 1] 23)).alloc (.cells #[.int .i64 1, .int .i64 1048576] 23)) w' → w'.cell? ⟨w.heap.size, 0, none⟩ = some (.int .i64 1099511627776) ∧ w'.cell? ⟨w.heap.size, 1, none⟩ = some (.int .i64 1) ∧ w'.cell? ⟨w.heap.size + 1, 0, none⟩ = some (.int .i64 1) ∧ w'.cell? ⟨w.heap.size + 1, 1, none⟩ = some (.int .i64 1048576)) := fun w' h => by
    obtain ⟨q0, q1⟩ := HM1.out w' (below_then (below_alloc' (w.alloc (.cells #[.int .i64 1099511627776, .int .i64 1] 23)) (.cells #[.int .i64 1, .int .i64 1048576] 23)) h)
    exact ⟨q0, q1, below_cell h ((Cel.at (w.alloc (.cells #[.int .i64 1099511627776, .int .i64 1] 23)) (w.heap.size + 1) 23 #[.int .i64 1, .int .i64 1048576] (by simp)).cell 0 _ rfl), below_cell h ((Cel.at (w.alloc (.cells #[.int .i64 1099511627776, .int .i64 1] 23)) (w.heap.size + 1) 23 #[.int .i64 1, .int .i64 1048576] (by simp)).cell 1 _ rfl)⟩
  obtain ⟨g0, g1, g2, g3⟩ := HM2.out _ (Below.refl _ _)
  go_wp2_with fail
  go_fit (KA.out _ HB2.out)
  rintro e w3 ⟨rfl, hb⟩
  clear g0 g1 g2 g3
  have HB3 := Lib.hid (below_then HB2.out hb)
  have HM3 : Hid (∀ w', Below w3.heap.size w3 w' → w'.cell? ⟨w.heap.size, 0, none⟩ = some (.int .i64 1099511627776) ∧ w'.cell? ⟨w.heap.size, 1, none⟩ = some (.int .i64 1) ∧ w'.cell? ⟨w.heap.size + 1, 0, none⟩ = some (.int .i64 1) ∧ w'.cell? ⟨w.heap.size + 1, 1, none⟩ = some (.int .i64 1048576)) := fun w' h => by
    obtain ⟨q0, q1, q2, q3⟩ := HM2.out w' (below_then hb h)
    exact ⟨q0, q1, q2, q3⟩
  clear hb
  have HB4 := Lib.hid (HB3.out.alloc HB3.out.size (.cells #[.int .i64 0, .int .i64 0] 23))
  have HM4 : Hid (∀ w', Below (w3.alloc (.cells #[.int .i64 0, .int .i64 0] 23)).heap.size (w3.alloc (.cells #[.int .i64 0, .int .i64 0] 23)) w' → w'.cell? ⟨w.heap.size, 0, none⟩ = some (.int .i64 1099511627776) ∧ w'.cell? ⟨w.heap.size, 1, none⟩ = some (.int .i64 1) ∧ w'.cell? ⟨w.heap.size + 1, 0, none⟩ = some (.int .i64 1) ∧ w'.cell? ⟨w.heap.size + 1, 1, none⟩ = some (.int .i64 1048576) ∧ w'.cell? ⟨w3.heap.size, 0, none⟩ = some (.int .i64 0) ∧ w'.cell? ⟨w3.heap.size, 1, none⟩ = some (.int .i64 0)) := fun w' h => by
    obtain ⟨q0, q1, q2, q3⟩ := HM3.out w' (below_then (below_alloc' w3 (.cells #[.int .i64 0, .int .i64 0] 23)) h)
    exact ⟨q0, q1, q2, q3, below_cell h ((Cel.at w3 (w3.heap.size) 23 #[.int .i64 0, .int .i64 0] (by simp)).cell 0 _ rfl), below_cell h ((Cel.at w3 (w3.heap.size) 23 #[.int .i64 0, .int .i64 0] (by simp)).cell 1 _ rfl)⟩
  obtain ⟨g0, g1, g2, g3, g4, g5⟩ := HM4.out _ (Below.refl _ _)
  go_wp2_with fail
  go_fit (KM.out _ HB4.out)
  rintro e w5 ⟨rfl, hb⟩
  clear g0 g1 g2 g3 g4 g5
  have HB5 := Lib.hid (below_then HB4.out hb)
  have HM5 : Hid (∀ w', Below w5.heap.size w5 w' → w'.cell? ⟨w.heap.size, 0, none⟩ = some (.int .i64 1099511627776) ∧ w'.cell? ⟨w.heap.size, 1, none⟩ = some (.int .i64 1) ∧ w'.cell? ⟨w.heap.size + 1, 0, none⟩ = some (.int .i64 1) ∧ w'.cell? ⟨w.heap.size + 1, 1, none⟩ = some (.int .i64 1048576) ∧ w'.cell? ⟨w3.heap.size, 0, none⟩ = some (.int .i64 0) ∧ w'.cell? ⟨w3.heap.size, 1, none⟩ = some (.int .i64 0)) := fun w' h => by
    obtain ⟨q0, q1, q2, q3, q4, q5⟩ := HM4.out w' (below_then hb h)
    exact ⟨q0, q1, q2, q3, q4, q5⟩
  clear hb
  have HB6 := Lib.hid (HB5.out.alloc HB5.out.size (.cells #[.int .i64 0, .int .i64 0] 23))
  have HM6 : Hid (∀ w', Below (w5.alloc (.cells #[.int .i64 0, .int .i64 0] 23)).heap.size (w5.alloc (.cells #[.int .i64 0, .int .i64 0] 23)) w' → w'.cell? ⟨w.heap.size, 0, none⟩ = some (.int .i64 1099511627776) ∧ w'.cell? ⟨w.heap.size, 1, none⟩ = some (.int .i64 1) ∧ w'.cell? ⟨w.heap.size + 1, 0, none⟩ = some (.int .i64 1) ∧ w'.cell? ⟨w.heap.size + 1, 1, none⟩ = some (.int .i64 1048576) ∧ w'.cell? ⟨w3.heap.size, 0, none⟩ = some (.int .i64 0) ∧ w'.cell? ⟨w3.heap.size, 1, none⟩ = some (.int .i64 0) ∧ w'.cell? ⟨w5.heap.size, 0, none⟩ = some (.int .i64 0) ∧ w'.cell? ⟨w5.heap.size, 1, none⟩ = some (.int .i64 0)) := fun w' h => by
    obtain ⟨q0, q1, q2, q3, q4, q5⟩ := HM5.out w' (below_then (below_alloc' w5 (.cells #[.int .i64 0, .int .i64 0] 23)) h)
    exact ⟨q0, q1, q2, q3, q4, q5, below_cell h ((Cel.at w5 (w5.heap.size) 23 #[.int .i64 0, .int .i64 0] (by simp)).cell 0 _ rfl), below_cell h ((Cel.at w5 (w5.heap.size) 23 #[.int .i64 0, .int .i64 0] (by simp)).cell 1 _ rfl)⟩
  obtain ⟨g0, g1, g2, g3, g4, g5, g6, g7⟩ := HM6.out _ (Below.refl _ _)
  have HB7 := Lib.hid (HB6.out.alloc HB6.out.size (.cells #[.int .i64 1099511627776, .int .i64 1, .int .i64 1099511627776, .int .i64 1, .int .i64 1, .int .i64 1048576, .int .i64 1, .int .i64 1048576, .int .i64 1, .int .i64 1048576, .int .i64 1, .int .i64 1048576] 23))
  have HM7 : Hid (∀ w', Below ((w5.alloc (.cells #[.int .i64 0, .int .i64 0] 23)).alloc (.cells #[.int .i64 1099511627776, .int .i64 1, .int .i64 1099511627776, .int .i64 1, .int .i64 1, .int .i64 1048576, .int .i64 1, .int .i64 1048576, .int .i64 1, .int .i64 1048576, .int .i64 1, .int .i64 1048576] 23)).heap.size ((w5.alloc (.cells #[.int .i64 0, .int .i64 0] 23)).alloc (.cells #[.int .i64 1099511627776, .int .i64 1, .int .i64 1099511627776, .int .i64 1, .int .i64 1, .int .i64 1048576, .int .i64 1, .int .i64 1048576, .int .i64 1, .int .i64 1048576, .int .i64 1, .int .i64 1048576] 23)) w' → w'.cell? ⟨w.heap.size, 0, none⟩ = some (.int .i64 1099511627776) ∧ w'.cell? ⟨w.heap.size, 1, none⟩ = some (.int .i64 1) ∧ w'.cell? ⟨w.heap.size + 1, 0, none⟩ = some (.int .i64 1) ∧ w'.cell? ⟨w.heap.size + 1, 1, none⟩ = some (.int .i64 1048576) ∧ w'.cell? ⟨w3.heap.size, 0, none⟩ = some (.int .i64 0) ∧ w'.cell? ⟨w3.heap.size, 1, none⟩ = some (.int .i64 0) ∧ w'.cell? ⟨w5.heap.size, 0, none⟩ = some (.int .i64 0) ∧ w'.cell? ⟨w5.heap.size, 1, none⟩ = some (.int .i64 0)) := fun w' h => by
    obtain ⟨q0, q1, q2, q3, q4, q5, q6, q7⟩ := HM6.out w' (below_then (below_alloc' (w5.alloc (.cells #[.int .i64 0, .int .i64 0] 23)) (.cells #[.int .i64 1099511627776, .int .i64 1, .int .i64 1099511627776, .int .i64 1, .int .i64 1, .int .i64 1048576, .int .i64 1, .int .i64 1048576, .int .i64 1, .int .i64 1048576, .int .i64 1, .int .i64 1048576] 23)) h)
    exact ⟨q0, q1, q2, q3, q4, q5, q6, q7⟩
  have HSP := Lib.hid (Cel.sl (s := 2) (m := 6) (cap := 6) (xs := rsV prL) (Cel.at (w5.alloc (.cells #[.int .i64 0, .int .i64 0] 23)) (w5.heap.size + 1) 23 #[.int .i64 1099511627776, .int .i64 1, .int .i64 1099511627776, .int .i64 1, .int .i64 1, .int .i64 1048576, .int .i64 1, .int .i64 1048576, .int .i64 1, .int .i64 1048576, .int .i64 1, .int .i64 1048576] (by simp)) rfl rfl (Nat.le_refl _) (by decide))
  go_wp2_with fail
  go_fit (KP.out _ _ HB7.out HSP.out)
  rintro e w8 ⟨rfl, hb⟩
  clear g0 g1 g2 g3 g4 g5 g6 g7
  have HB8 := Lib.hid (below_then HB7.out hb)
  have HM8 : Hid (∀ w', Below w8.heap.size w8 w' → w'.cell? ⟨w.heap.size, 0, none⟩ = some (.int .i64 1099511627776) ∧ w'.cell? ⟨w.heap.size, 1, none⟩ = some (.int .i64 1) ∧ w'.cell? ⟨w.heap.size + 1, 0, none⟩ = some (.int .i64 1) ∧ w'.cell? ⟨w.heap.size + 1, 1, none⟩ = some (.int .i64 1048576) ∧ w'.cell? ⟨w3.heap.size, 0, none⟩ = some (.int .i64 0) ∧ w'.cell? ⟨w3.heap.size, 1, none⟩ = some (.int .i64 0) ∧ w'.cell? ⟨w5.heap.size, 0, none⟩ = some (.int .i64 0) ∧ w'.cell? ⟨w5.heap.size, 1, none⟩ = some (.int .i64 0)) := fun w' h => by
    obtain ⟨q0, q1, q2, q3, q4, q5, q6, q7⟩ := HM7.out w' (below_then hb h)
    exact ⟨q0, q1, q2, q3, q4, q5, q6, q7⟩
  clear hb
  clear HSP
  have HB9 := Lib.hid (HB8.out.alloc HB8.out.size (.cells #[.int .i64 1, .int .i64 1] 23))
  have HM9 : Hid (∀ w', Below (w8.alloc (.cells #[.int .i64 1, .int .i64 1] 23)).heap.size (w8.alloc (.cells #[.int .i64 1, .int .i64 1] 23)) w' → w'.cell? ⟨w8.heap.size, 0, none⟩ = some (.int .i64 1) ∧ w'.cell? ⟨w8.heap.size, 1, none⟩ = some (.int .i64 1)) := fun w' h => by
    exact ⟨below_cell h ((Cel.at w8 (w8.heap.size) 23 #[.int .i64 1, .int .i64 1] (by simp)).cell 0 _ rfl), below_cell h ((Cel.at w8 (w8.heap.size) 23 #[.int .i64 1, .int .i64 1] (by simp)).cell 1 _ rfl)⟩
  have HB10 := Lib.hid (HB9.out.alloc HB9.out.size (.cells #[.string ⟨#[97]⟩, .int .i64 1, .string ⟨#[98]⟩, .int .i64 32, .string ⟨#[99]⟩, .int .i64 32, .string ⟨#[100]⟩, .int .i64 32, .string ⟨#[101]⟩, .int .i64 32, .string ⟨#[102]⟩, .int .i64 32, .string ⟨#[103]⟩, .int .i64 32, .string ⟨#[104]⟩, .int .i64 32, .string ⟨#[105]⟩, .int .i64 32] 78))
  have HM10 : Hid (∀ w', Below ((w8.alloc (.cells #[.int .i64 1, .int .i64 1] 23)).alloc (.cells #[.string ⟨#[97]⟩, .int .i64 1, .string ⟨#[98]⟩, .int .i64 32, .string ⟨#[99]⟩, .int .i64 32, .string ⟨#[100]⟩, .int .i64 32, .string ⟨#[101]⟩, .int .i64 32, .string ⟨#[102]⟩, .int .i64 32, .string ⟨#[103]⟩, .int .i64 32, .string ⟨#[104]⟩, .int .i64 32, .string ⟨#[105]⟩, .int .i64 32] 78)).heap.size ((w8.alloc (.cells #[.int .i64 1, .int .i64 1] 23)).alloc (.cells #[.string ⟨#[97]⟩, .int .i64 1, .string ⟨#[98]⟩, .int .i64 32, .string ⟨#[99]⟩, .int .i64 32, .string ⟨#[100]⟩, .int .i64 32, .string ⟨#[101]⟩, .int .i64 32, .string ⟨#[102]⟩, .int .i64 32, .string ⟨#[103]⟩, .int .i64 32, .string ⟨#[104]⟩, .int .i64 32, .string ⟨#[105]⟩, .int .i64 32] 78)) w' → w'.cell? ⟨w8.heap.size, 0, none⟩ = some (.int .i64 1) ∧ w'.cell? ⟨w8.heap.size, 1, none⟩ = some (.int .i64 1)) := fun w' h => by
    obtain ⟨q0, q1⟩ := HM9.out w' (below_then (below_alloc' (w8.alloc (.cells #[.int .i64 1, .int .i64 1] 23)) (.cells #[.string ⟨#[97]⟩, .int .i64 1, .string ⟨#[98]⟩, .int .i64 32, .string ⟨#[99]⟩, .int .i64 32, .string ⟨#[100]⟩, .int .i64 32, .string ⟨#[101]⟩, .int .i64 32, .string ⟨#[102]⟩, .int .i64 32, .string ⟨#[103]⟩, .int .i64 32, .string ⟨#[104]⟩, .int .i64 32, .string ⟨#[105]⟩, .int .i64 32] 78)) h)
    exact ⟨q0, q1⟩
  have HSU : Hid (∀ w', Below ((w8.alloc (.cells #[.int .i64 1, .int .i64 1] 23)).alloc (.cells #[.string ⟨#[97]⟩, .int .i64 1, .string ⟨#[98]⟩, .int .i64 32, .string ⟨#[99]⟩, .int .i64 32, .string ⟨#[100]⟩, .int .i64 32, .string ⟨#[101]⟩, .int .i64 32, .string ⟨#[102]⟩, .int .i64 32, .string ⟨#[103]⟩, .int .i64 32, .string ⟨#[104]⟩, .int .i64 32, .string ⟨#[105]⟩, .int .i64 32] 78)).heap.size ((w8.alloc (.cells #[.int .i64 1, .int .i64 1] 23)).alloc (.cells #[.string ⟨#[97]⟩, .int .i64 1, .string ⟨#[98]⟩, .int .i64 32, .string ⟨#[99]⟩, .int .i64 32, .string ⟨#[100]⟩, .int .i64 32, .string ⟨#[101]⟩, .int .i64 32, .string ⟨#[102]⟩, .int .i64 32, .string ⟨#[103]⟩, .int .i64 32, .string ⟨#[104]⟩, .int .i64 32, .string ⟨#[105]⟩, .int .i64 32] 78)) w' → Sl w' 2 (.slice (some ⟨w8.heap.size + 1, 0, none⟩) 9 9) (unitsV longU)) := fun w' h => (Cel.sl (s := 2) (m := 9) (cap := 9) (xs := unitsV longU) (Cel.at (w8.alloc (.cells #[.int .i64 1, .int .i64 1] 23)) (w8.heap.size + 1) 78 #[.string ⟨#[97]⟩, .int .i64 1, .string ⟨#[98]⟩, .int .i64 32, .string ⟨#[99]⟩, .int .i64 32, .string ⟨#[100]⟩, .int .i64 32, .string ⟨#[101]⟩, .int .i64 32, .string ⟨#[102]⟩, .int .i64 32, .string ⟨#[103]⟩, .int .i64 32, .string ⟨#[104]⟩, .int .i64 32, .string ⟨#[105]⟩, .int .i64 32] (by simp)) rfl rfl (Nat.le_refl _) (by decide)).below h
  have HB11 := Lib.hid (HB10.out.alloc HB10.out.size (.cells #[.string longN, .slice (some ⟨w8.heap.size + 1, 0, none⟩) 9 9] 33))
  have HM11 : Hid (∀ w', Below (((w8.alloc (.cells #[.int .i64 1, .int .i64 1] 23)).alloc (.cells #[.string ⟨#[97]⟩, .int .i64 1, .string ⟨#[98]⟩, .int .i64 32, .string ⟨#[99]⟩, .int .i64 32, .string ⟨#[100]⟩, .int .i64 32, .string ⟨#[101]⟩, .int .i64 32, .string ⟨#[102]⟩, .int .i64 32, .string ⟨#[103]⟩, .int .i64 32, .string ⟨#[104]⟩, .int .i64 32, .string ⟨#[105]⟩, .int .i64 32] 78)).alloc (.cells #[.string longN, .slice (some ⟨w8.heap.size + 1, 0, none⟩) 9 9] 33)).heap.size (((w8.alloc (.cells #[.int .i64 1, .int .i64 1] 23)).alloc (.cells #[.string ⟨#[97]⟩, .int .i64 1, .string ⟨#[98]⟩, .int .i64 32, .string ⟨#[99]⟩, .int .i64 32, .string ⟨#[100]⟩, .int .i64 32, .string ⟨#[101]⟩, .int .i64 32, .string ⟨#[102]⟩, .int .i64 32, .string ⟨#[103]⟩, .int .i64 32, .string ⟨#[104]⟩, .int .i64 32, .string ⟨#[105]⟩, .int .i64 32] 78)).alloc (.cells #[.string longN, .slice (some ⟨w8.heap.size + 1, 0, none⟩) 9 9] 33)) w' → w'.cell? ⟨w8.heap.size, 0, none⟩ = some (.int .i64 1) ∧ w'.cell? ⟨w8.heap.size, 1, none⟩ = some (.int .i64 1) ∧ w'.cell? ⟨w8.heap.size + 1 + 1, 0, none⟩ = some (.string longN) ∧ w'.cell? ⟨w8.heap.size + 1 + 1, 1, none⟩ = some (.slice (some ⟨w8.heap.size + 1, 0, none⟩) 9 9)) := fun w' h => by
    obtain ⟨q0, q1⟩ := HM10.out w' (below_then (below_alloc' ((w8.alloc (.cells #[.int .i64 1, .int .i64 1] 23)).alloc (.cells #[.string ⟨#[97]⟩, .int .i64 1, .string ⟨#[98]⟩, .int .i64 32, .string ⟨#[99]⟩, .int .i64 32, .string ⟨#[100]⟩, .int .i64 32, .string ⟨#[101]⟩, .int .i64 32, .string ⟨#[102]⟩, .int .i64 32, .string ⟨#[103]⟩, .int .i64 32, .string ⟨#[104]⟩, .int .i64 32, .string ⟨#[105]⟩, .int .i64 32] 78)) (.cells #[.string longN, .slice (some ⟨w8.heap.size + 1, 0, none⟩) 9 9] 33)) h)
    exact ⟨q0, q1, below_cell h ((Cel.at ((w8.alloc (.cells #[.int .i64 1, .int .i64 1] 23)).alloc (.cells #[.string ⟨#[97]⟩, .int .i64 1, .string ⟨#[98]⟩, .int .i64 32, .string ⟨#[99]⟩, .int .i64 32, .string ⟨#[100]⟩, .int .i64 32, .string ⟨#[101]⟩, .int .i64 32, .string ⟨#[102]⟩, .int .i64 32, .string ⟨#[103]⟩, .int .i64 32, .string ⟨#[104]⟩, .int .i64 32, .string ⟨#[105]⟩, .int .i64 32] 78)) (w8.heap.size + 1 + 1) 33 #[.string longN, .slice (some ⟨w8.heap.size + 1, 0, none⟩) 9 9] (by simp)).cell 0 _ rfl), below_cell h ((Cel.at ((w8.alloc (.cells #[.int .i64 1, .int .i64 1] 23)).alloc (.cells #[.string ⟨#[97]⟩, .int .i64 1, .string ⟨#[98]⟩, .int .i64 32, .string ⟨#[99]⟩, .int .i64 32, .string ⟨#[100]⟩, .int .i64 32, .string ⟨#[101]⟩, .int .i64 32, .string ⟨#[102]⟩, .int .i64 32, .string ⟨#[103]⟩, .int .i64 32, .string ⟨#[104]⟩, .int .i64 32, .string ⟨#[105]⟩, .int .i64 32] 78)) (w8.heap.size + 1 + 1) 33 #[.string longN, .slice (some ⟨w8.heap.size + 1, 0, none⟩) 9 9] (by simp)).cell 1 _ rfl)⟩
  have HSU2 : Hid (∀ w', Below (((w8.alloc (.cells #[.int .i64 1, .int .i64 1] 23)).alloc (.cells #[.string ⟨#[97]⟩, .int .i64 1, .string ⟨#[98]⟩, .int .i64 32, .string ⟨#[99]⟩, .int .i64 32, .string ⟨#[100]⟩, .int .i64 32, .string ⟨#[101]⟩, .int .i64 32, .string ⟨#[102]⟩, .int .i64 32, .string ⟨#[103]⟩, .int .i64 32, .string ⟨#[104]⟩, .int .i64 32, .string ⟨#[105]⟩, .int .i64 32] 78)).alloc (.cells #[.string longN, .slice (some ⟨w8.heap.size + 1, 0, none⟩) 9 9] 33)).heap.size (((w8.alloc (.cells #[.int .i64 1, .int .i64 1] 23)).alloc (.cells #[.string ⟨#[97]⟩, .int .i64 1, .string ⟨#[98]⟩, .int .i64 32, .string ⟨#[99]⟩, .int .i64 32, .string ⟨#[100]⟩, .int .i64 32, .string ⟨#[101]⟩, .int .i64 32, .string ⟨#[102]⟩, .int .i64 32, .string ⟨#[103]⟩, .int .i64 32, .string ⟨#[104]⟩, .int .i64 32, .string ⟨#[105]⟩, .int .i64 32] 78)).alloc (.cells #[.string longN, .slice (some ⟨w8.heap.size + 1, 0, none⟩) 9 9] 33)) w' → Sl w' 2 (.slice (some ⟨w8.heap.size + 1, 0, none⟩) 9 9) (unitsV longU)) := fun w' h => HSU.out w' (below_then (below_alloc' ((w8.alloc (.cells #[.int .i64 1, .int .i64 1] 23)).alloc (.cells #[.string ⟨#[97]⟩, .int .i64 1, .string ⟨#[98]⟩, .int .i64 32, .string ⟨#[99]⟩, .int .i64 32, .string ⟨#[100]⟩, .int .i64 32, .string ⟨#[101]⟩, .int .i64 32, .string ⟨#[102]⟩, .int .i64 32, .string ⟨#[103]⟩, .int .i64 32, .string ⟨#[104]⟩, .int .i64 32, .string ⟨#[105]⟩, .int .i64 32] 78)) (.cells #[.string longN, .slice (some ⟨w8.heap.size + 1, 0, none⟩) 9 9] 33)) h)
  clear HSU
  obtain ⟨g0, g1, g2, g3⟩ := HM11.out _ (Below.refl _ _)
  go_wp2_with fail
  go_fit (KV.out _ _ HB11.out ⟨_, _, _, rfl, HSU2.out _ (Below.refl _ _)⟩)
  rintro e w12 ⟨rfl, hb⟩
  clear g0 g1 g2 g3
  have HB12 := Lib.hid (below_then HB11.out hb)
  have HM12 : Hid (∀ w', Below w12.heap.size w12 w' → w'.cell? ⟨w8.heap.size, 0, none⟩ = some (.int .i64 1) ∧ w'.cell? ⟨w8.heap.size, 1, none⟩ = some (.int .i64 1) ∧ w'.cell? ⟨w8.heap.size + 1 + 1, 0, none⟩ = some (.string longN) ∧ w'.cell? ⟨w8.heap.size + 1 + 1, 1, none⟩ = some (.slice (some ⟨w8.heap.size + 1, 0, none⟩) 9 9)) := fun w' h => by
    obtain ⟨q0, q1, q2, q3⟩ := HM11.out w' (below_then hb h)
    exact ⟨q0, q1, q2, q3⟩
  have HSU3 := Lib.hid (HSU2.out w12 hb)
  clear hb
  have hws := HB12.out.size
  have HB13 := Lib.hid (HB12.out.alloc HB12.out.size (.cells #[] 78))
  have HM13 : Hid (∀ w', Below (w12.alloc (.cells #[] 78)).heap.size (w12.alloc (.cells #[] 78)) w' → w'.cell? ⟨w8.heap.size, 0, none⟩ = some (.int .i64 1) ∧ w'.cell? ⟨w8.heap.size, 1, none⟩ = some (.int .i64 1) ∧ w'.cell? ⟨w8.heap.size + 1 + 1, 0, none⟩ = some (.string longN) ∧ w'.cell? ⟨w8.heap.size + 1 + 1, 1, none⟩ = some (.slice (some ⟨w8.heap.size + 1, 0, none⟩) 9 9)) := fun w' h => by
    obtain ⟨q0, q1, q2, q3⟩ := HM12.out w' (below_then (below_alloc' w12 (.cells #[] 78)) h)
    exact ⟨q0, q1, q2, q3⟩
  have HSU4 := Lib.hid (HSU3.out.below (below_alloc' w12 (.cells #[] 78)))
  have HO4 := Lib.hid (own_lit (base := w12.heap.size) (n := 0) (size := 2) (Cel.new w12 78 #[]) (Nat.le_refl _) rfl (by decide))
  obtain ⟨g0, g1, g2, g3⟩ := HM13.out _ (Below.refl _ _)
  go_wp2_with (first | (at_builtin; refine appUn (.tmp 68) (.tmp 70) rfl rfl rfl rfl HO4.out HSU4.out (unitsV_one _) (N := 9) (by decide) (by decide) (by simp) ?_; intro A5 c5 u5 hap; have HB88 := Lib.hid (HB13.out.grown hap.grown (by have := HB13.out.size; exact this) (fun g hg => by have := own_ge HO4.out hg; omega)); have HO5 := Lib.hid (own_alloc (o := (.cells #[.string ⟨#[106]⟩, .int .i64 2] 78)) hap.own); have HS5 := Lib.hid (Sl.new (s := 2) u5 78 1 1 #[.string ⟨#[106]⟩, .int .i64 2] rfl (Nat.le_refl _) (by decide)); have HB89 := Lib.hid (HB88.out.alloc HB88.out.size (.cells #[.string ⟨#[106]⟩, .int .i64 2] 78)); have hw5 : w12.heap.size < u5.heap.size := (by have := hap.grown.size; simp at this; omega); clear hap) | (at_builtin; refine appUn (.tmp 71) (.tmp 73) rfl rfl rfl rfl HO5.out HS5.out (by simp [Value.oneCell']) (N := 10) (by decide) (by decide) (by simp; omega) ?_; intro A6 c6 u6 hap6))
  clear g0 g1 g2 g3
  have HB90 := Lib.hid (HB89.out.grown hap6.grown (by have := HB89.out.size; exact this) (fun g hg => by have := own_ge HO5.out hg; omega))
  have HSO := Lib.hid (show Sl u6 2 (.slice A6 10 c6) (unitsV (longU ++ [unC 106 2])) from Sl.of_own hap6.own)
  clear hap6
  have HB91 := Lib.hid (HB90.out.alloc HB90.out.size (.cells #[.string longN, .slice A6 10 c6] 33))
  have HM91 : Hid (∀ w', Below (u6.alloc (.cells #[.string longN, .slice A6 10 c6] 33)).heap.size (u6.alloc (.cells #[.string longN, .slice A6 10 c6] 33)) w' → w'.cell? ⟨u6.heap.size, 0, none⟩ = some (.string longN) ∧ w'.cell? ⟨u6.heap.size, 1, none⟩ = some (.slice A6 10 c6)) := fun w' h => by
    exact ⟨below_cell h ((Cel.at u6 (u6.heap.size) 33 #[.string longN, .slice A6 10 c6] (by simp)).cell 0 _ rfl), below_cell h ((Cel.at u6 (u6.heap.size) 33 #[.string longN, .slice A6 10 c6] (by simp)).cell 1 _ rfl)⟩
  have HSO2 := Lib.hid (HSO.out.below (below_alloc' u6 (.cells #[.string longN, .slice A6 10 c6] 33)))
  obtain ⟨g0, g1⟩ := HM91.out _ (Below.refl _ _)
  go_wp2_with fail
  go_fit (KCO.out _ _ HB91.out ⟨_, _, _, rfl, HSO2.out⟩)
  rintro e w92 ⟨rfl, hb⟩
  clear g0 g1
  have HB92 := Lib.hid (below_then HB91.out hb)
  have HM92 : Hid (∀ w', Below w92.heap.size w92 w' → w'.cell? ⟨u6.heap.size, 0, none⟩ = some (.string longN) ∧ w'.cell? ⟨u6.heap.size, 1, none⟩ = some (.slice A6 10 c6)) := fun w' h => by
    obtain ⟨q0, q1⟩ := HM91.out w' (below_then hb h)
    exact ⟨q0, q1⟩
  clear hb
  go_wp2_with fail
  go_fit (KCH.out _ HB92.out)
  rintro e w93 ⟨rfl, hb⟩
  have HB93 := Lib.hid (below_then HB92.out hb)
  have HM93 : Hid (∀ w', Below w93.heap.size w93 w' → w'.cell? ⟨u6.heap.size, 0, none⟩ = some (.string longN) ∧ w'.cell? ⟨u6.heap.size, 1, none⟩ = some (.slice A6 10 c6)) := fun w' h => by
    obtain ⟨q0, q1⟩ := HM92.out w' (below_then hb h)
    exact ⟨q0, q1⟩
  clear hb
  go_wp2
  go_ret
  exact ⟨rfl, HB93.out⟩
end Go.Proofs.YtmibpncmebhbjaaDoor
