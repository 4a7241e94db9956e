/- MetroKnown: nothing; a ladder of a book. -/
import Derived.Test.YtmibpncmebhbjaaDoorKno3
namespace Go.Proofs.YtmibpncmebhbjaaDoor
open Go Go.RowKit Go.Shelf
attribute [local go_sem] Oper.semAt_some rrV

set_option maxRecDepth 100000 in
set_option maxHeartbeats 4000000 in
theorem nothing_any (v : Value) (w : World) (h : NoB w v) : Calls Tryd.prog 82 #[v] w fun e w' => e = .returned (.bool true) ∧ Below w.heap.size w w' := by
  have HN := Lib.hid (fun w' (hb : Below w.heap.size w w') => h.below hb)
  have KL : Hid (∀ w', Below w.heap.size w w' → Calls Tryd.prog 70 #[v, .string ⟨#[99, 111, 117, 110, 116]⟩] w' fun e w'' => e = .returned (.tuple #[.agg #[.string ⟨#[]⟩, .slice none 0 0], .int .i64 1]) ∧ Below w'.heap.size w' w'') := fun w' hb => ladder_none v ⟨#[99, 111, 117, 110, 116]⟩ w' (HN.out w' hb)
  have KF : Hid (∀ w', Below w.heap.size w w' → Calls Tryd.prog 41 #[v, .string ⟨#[99, 111, 117, 110, 116]⟩, .string ⟨#[99, 111, 117, 110, 116]⟩] w' fun e w'' => e = .returned (.tuple #[.agg #[.int .i64 0, .int .i64 0], .int .i64 1]) ∧ Below w'.heap.size w' w'') := fun w' hb => factor_none v ⟨#[99, 111, 117, 110, 116]⟩ ⟨#[99, 111, 117, 110, 116]⟩ w' (HN.out w' hb)
  have KV : Hid (∀ w', Below w.heap.size w w' → Calls Tryd.prog 37 #[v, .agg #[.string ⟨#[99, 111, 117, 110, 116]⟩, .int .i64 0], .string ⟨#[99, 111, 117, 110, 116]⟩] w' fun e w'' => e = .returned (.tuple #[.agg #[.int .i64 0, .int .i64 0], .int .i64 1]) ∧ Below w'.heap.size w' w'') := fun w' hb => convert_none v ⟨#[99, 111, 117, 110, 116]⟩ ⟨#[99, 111, 117, 110, 116]⟩ 0 w' (HN.out w' hb)
  have KW : Hid (∀ w', Below w.heap.size w w' → Calls Tryd.prog 38 #[v, .agg #[.string ⟨#[99, 111, 117, 110, 116]⟩, .int .i64 0], .string ⟨#[99, 111, 117, 110, 116]⟩] w' fun e w'' => e = .returned (.tuple #[.agg #[.string ⟨#[]⟩, .int .i64 0], .agg #[.int .i64 0, .int .i64 0], .int .i64 1]) ∧ Below w'.heap.size w' w'') := fun w' hb => whole_none v ⟨#[99, 111, 117, 110, 116]⟩ ⟨#[99, 111, 117, 110, 116]⟩ 0 w' (HN.out w' hb)
  have KC : Hid (∀ u w', Below w.heap.size w w' → Calls Tryd.prog 44 #[v, u] w' fun e w'' => e = .returned (.tuple #[.agg #[.int .i64 0, .int .i64 0], .int .i64 1]) ∧ Below w'.heap.size w' w'') := fun u w' hb => chain_none v u w' (HN.out w' hb)
  have KN : Hid (∀ w', Below w.heap.size w w' → Calls Tryd.prog 59 #[v] w' fun e w'' => e = .returned (.slice none 0 0) ∧ w' = w'') := fun w' hb => names_none v w' (HN.out w' hb)
  have KG : Hid (∀ w', Below w.heap.size w w' → Calls Tryd.prog 52 #[v, .string ⟨#[99, 111, 117, 110, 116]⟩] w' fun e w'' => e = .returned (.slice none 0 0) ∧ w' = w'') := fun w' hb => group_none v ⟨#[99, 111, 117, 110, 116]⟩ w' (HN.out w' hb)
  clear h HN
  have HB0 := Lib.hid (Below.refl w.heap.size w)
  go_enter Tryd.func82, Tryd.ntmps82
  go_wp2_with fail
  go_fit (KL.out _ HB0.out)
  rintro e w1 ⟨rfl, hb⟩
  have HB1 := Lib.hid (below_then HB0.out hb)
  clear hb
  have HB2 := Lib.hid (HB1.out.alloc HB1.out.size (.cells #[.string ⟨#[]⟩, .slice none 0 0] 33))
  have HM2 : Hid (∀ w', Below (w1.alloc (.cells #[.string ⟨#[]⟩, .slice none 0 0] 33)).heap.size (w1.alloc (.cells #[.string ⟨#[]⟩, .slice none 0 0] 33)) w' → w'.cell? ⟨w1.heap.size, 0, none⟩ = some (.string ⟨#[]⟩) ∧ w'.cell? ⟨w1.heap.size, 1, none⟩ = some (.slice none 0 0)) := fun w' h => by
    exact ⟨below_cell h ((Cel.at w1 (w1.heap.size) 33 #[.string ⟨#[]⟩, .slice none 0 0] (by simp)).cell 0 _ rfl), below_cell h ((Cel.at w1 (w1.heap.size) 33 #[.string ⟨#[]⟩, .slice none 0 0] (by simp)).cell 1 _ rfl)⟩
  go_wp2_with fail
  go_fit (KF.out _ HB2.out)
  rintro e w3 ⟨rfl, hb⟩
  have HB3 := Lib.hid (below_then HB2.out hb)
  have HM3 : Hid (∀ w', Below w3.heap.size w3 w' → w'.cell? ⟨w1.heap.size, 0, none⟩ = some (.string ⟨#[]⟩) ∧ w'.cell? ⟨w1.heap.size, 1, none⟩ = some (.slice none 0 0)) := fun w' h => by
    obtain ⟨q0, q1⟩ := HM2.out w' (below_then hb h)
    exact ⟨q0, q1⟩
  clear hb
  have HB4 := Lib.hid (HB3.out.alloc HB3.out.size (.cells #[.int .i64 0, .int .i64 0] 23))
  have HM4 : Hid (∀ w', Below (w3.alloc (.cells #[.int .i64 0, .int .i64 0] 23)).heap.size (w3.alloc (.cells #[.int .i64 0, .int .i64 0] 23)) w' → w'.cell? ⟨w1.heap.size, 0, none⟩ = some (.string ⟨#[]⟩) ∧ w'.cell? ⟨w1.heap.size, 1, none⟩ = some (.slice none 0 0) ∧ w'.cell? ⟨w3.heap.size, 0, none⟩ = some (.int .i64 0) ∧ w'.cell? ⟨w3.heap.size, 1, none⟩ = some (.int .i64 0)) := fun w' h => by
    obtain ⟨q0, q1⟩ := HM3.out w' (below_then (below_alloc' w3 (.cells #[.int .i64 0, .int .i64 0] 23)) h)
    exact ⟨q0, q1, below_cell h ((Cel.at w3 (w3.heap.size) 23 #[.int .i64 0, .int .i64 0] (by simp)).cell 0 _ rfl), below_cell h ((Cel.at w3 (w3.heap.size) 23 #[.int .i64 0, .int .i64 0] (by simp)).cell 1 _ rfl)⟩
  have HB5 := Lib.hid (HB4.out.alloc HB4.out.size (.cells #[.string ⟨#[99, 111, 117, 110, 116]⟩] 9))
  have HM5 : Hid (∀ w', Below ((w3.alloc (.cells #[.int .i64 0, .int .i64 0] 23)).alloc (.cells #[.string ⟨#[99, 111, 117, 110, 116]⟩] 9)).heap.size ((w3.alloc (.cells #[.int .i64 0, .int .i64 0] 23)).alloc (.cells #[.string ⟨#[99, 111, 117, 110, 116]⟩] 9)) w' → w'.cell? ⟨w1.heap.size, 0, none⟩ = some (.string ⟨#[]⟩) ∧ w'.cell? ⟨w1.heap.size, 1, none⟩ = some (.slice none 0 0) ∧ w'.cell? ⟨w3.heap.size, 0, none⟩ = some (.int .i64 0) ∧ w'.cell? ⟨w3.heap.size, 1, none⟩ = some (.int .i64 0)) := fun w' h => by
    obtain ⟨q0, q1, q2, q3⟩ := HM4.out w' (below_then (below_alloc' (w3.alloc (.cells #[.int .i64 0, .int .i64 0] 23)) (.cells #[.string ⟨#[99, 111, 117, 110, 116]⟩] 9)) h)
    exact ⟨q0, q1, q2, q3⟩
  go_wp2_with fail
  go_fit (KC.out _ _ HB5.out)
  rintro e w6 ⟨rfl, hb⟩
  have HB6 := Lib.hid (below_then HB5.out hb)
  have HM6 : Hid (∀ w', Below w6.heap.size w6 w' → w'.cell? ⟨w1.heap.size, 0, none⟩ = some (.string ⟨#[]⟩) ∧ w'.cell? ⟨w1.heap.size, 1, none⟩ = some (.slice none 0 0) ∧ w'.cell? ⟨w3.heap.size, 0, none⟩ = some (.int .i64 0) ∧ w'.cell? ⟨w3.heap.size, 1, none⟩ = some (.int .i64 0)) := fun w' h => by
    obtain ⟨q0, q1, q2, q3⟩ := HM5.out w' (below_then hb h)
    exact ⟨q0, q1, q2, q3⟩
  clear hb
  have HB7 := Lib.hid (HB6.out.alloc HB6.out.size (.cells #[.int .i64 0, .int .i64 0] 23))
  have HM7 : Hid (∀ w', Below (w6.alloc (.cells #[.int .i64 0, .int .i64 0] 23)).heap.size (w6.alloc (.cells #[.int .i64 0, .int .i64 0] 23)) w' → w'.cell? ⟨w1.heap.size, 0, none⟩ = some (.string ⟨#[]⟩) ∧ w'.cell? ⟨w1.heap.size, 1, none⟩ = some (.slice none 0 0) ∧ w'.cell? ⟨w3.heap.size, 0, none⟩ = some (.int .i64 0) ∧ w'.cell? ⟨w3.heap.size, 1, none⟩ = some (.int .i64 0) ∧ w'.cell? ⟨w6.heap.size, 0, none⟩ = some (.int .i64 0) ∧ w'.cell? ⟨w6.heap.size, 1, none⟩ = some (.int .i64 0)) := fun w' h => by
    obtain ⟨q0, q1, q2, q3⟩ := HM6.out w' (below_then (below_alloc' w6 (.cells #[.int .i64 0, .int .i64 0] 23)) h)
    exact ⟨q0, q1, q2, q3, below_cell h ((Cel.at w6 (w6.heap.size) 23 #[.int .i64 0, .int .i64 0] (by simp)).cell 0 _ rfl), below_cell h ((Cel.at w6 (w6.heap.size) 23 #[.int .i64 0, .int .i64 0] (by simp)).cell 1 _ rfl)⟩
  go_wp2_with fail
  go_fit (KV.out _ HB7.out)
  rintro e w8 ⟨rfl, hb⟩
  have HB8 := Lib.hid (below_then HB7.out hb)
  have HM8 : Hid (∀ w', Below w8.heap.size w8 w' → w'.cell? ⟨w1.heap.size, 0, none⟩ = some (.string ⟨#[]⟩) ∧ w'.cell? ⟨w1.heap.size, 1, none⟩ = some (.slice none 0 0) ∧ w'.cell? ⟨w3.heap.size, 0, none⟩ = some (.int .i64 0) ∧ w'.cell? ⟨w3.heap.size, 1, none⟩ = some (.int .i64 0) ∧ w'.cell? ⟨w6.heap.size, 0, none⟩ = some (.int .i64 0) ∧ w'.cell? ⟨w6.heap.size, 1, none⟩ = some (.int .i64 0)) := fun w' h => by
    obtain ⟨q0, q1, q2, q3, q4, q5⟩ := HM7.out w' (below_then hb h)
    exact ⟨q0, q1, q2, q3, q4, q5⟩
  clear hb
  have HB9 := Lib.hid (HB8.out.alloc HB8.out.size (.cells #[.int .i64 0, .int .i64 0] 23))
  have HM9 : Hid (∀ w', Below (w8.alloc (.cells #[.int .i64 0, .int .i64 0] 23)).heap.size (w8.alloc (.cells #[.int .i64 0, .int .i64 0] 23)) w' → w'.cell? ⟨w1.heap.size, 0, none⟩ = some (.string ⟨#[]⟩) ∧ w'.cell? ⟨w1.heap.size, 1, none⟩ = some (.slice none 0 0) ∧ w'.cell? ⟨w3.heap.size, 0, none⟩ = some (.int .i64 0) ∧ w'.cell? ⟨w3.heap.size, 1, none⟩ = some (.int .i64 0) ∧ w'.cell? ⟨w6.heap.size, 0, none⟩ = some (.int .i64 0) ∧ w'.cell? ⟨w6.heap.size, 1, none⟩ = some (.int .i64 0) ∧ w'.cell? ⟨w8.heap.size, 0, none⟩ = some (.int .i64 0) ∧ w'.cell? ⟨w8.heap.size, 1, none⟩ = some (.int .i64 0)) := fun w' h => by
    obtain ⟨q0, q1, q2, q3, q4, q5⟩ := HM8.out w' (below_then (below_alloc' w8 (.cells #[.int .i64 0, .int .i64 0] 23)) h)
    exact ⟨q0, q1, q2, q3, q4, q5, below_cell h ((Cel.at w8 (w8.heap.size) 23 #[.int .i64 0, .int .i64 0] (by simp)).cell 0 _ rfl), below_cell h ((Cel.at w8 (w8.heap.size) 23 #[.int .i64 0, .int .i64 0] (by simp)).cell 1 _ rfl)⟩
  go_wp2_with fail
  go_fit (KW.out _ HB9.out)
  rintro e w10 ⟨rfl, hb⟩
  have HB10 := Lib.hid (below_then HB9.out hb)
  have HM10 : Hid (∀ w', Below w10.heap.size w10 w' → w'.cell? ⟨w1.heap.size, 0, none⟩ = some (.string ⟨#[]⟩) ∧ w'.cell? ⟨w1.heap.size, 1, none⟩ = some (.slice none 0 0) ∧ w'.cell? ⟨w3.heap.size, 0, none⟩ = some (.int .i64 0) ∧ w'.cell? ⟨w3.heap.size, 1, none⟩ = some (.int .i64 0) ∧ w'.cell? ⟨w6.heap.size, 0, none⟩ = some (.int .i64 0) ∧ w'.cell? ⟨w6.heap.size, 1, none⟩ = some (.int .i64 0) ∧ w'.cell? ⟨w8.heap.size, 0, none⟩ = some (.int .i64 0) ∧ w'.cell? ⟨w8.heap.size, 1, none⟩ = some (.int .i64 0)) := fun w' h => by
    obtain ⟨q0, q1, q2, q3, q4, q5, q6, q7⟩ := HM9.out w' (below_then hb h)
    exact ⟨q0, q1, q2, q3, q4, q5, q6, q7⟩
  clear hb
  have HB11 := Lib.hid (HB10.out.alloc HB10.out.size (.cells #[.string ⟨#[]⟩, .int .i64 0] 51))
  have HM11 : Hid (∀ w', Below (w10.alloc (.cells #[.string ⟨#[]⟩, .int .i64 0] 51)).heap.size (w10.alloc (.cells #[.string ⟨#[]⟩, .int .i64 0] 51)) w' → w'.cell? ⟨w1.heap.size, 0, none⟩ = some (.string ⟨#[]⟩) ∧ w'.cell? ⟨w1.heap.size, 1, none⟩ = some (.slice none 0 0) ∧ w'.cell? ⟨w3.heap.size, 0, none⟩ = some (.int .i64 0) ∧ w'.cell? ⟨w3.heap.size, 1, none⟩ = some (.int .i64 0) ∧ w'.cell? ⟨w6.heap.size, 0, none⟩ = some (.int .i64 0) ∧ w'.cell? ⟨w6.heap.size, 1, none⟩ = some (.int .i64 0) ∧ w'.cell? ⟨w8.heap.size, 0, none⟩ = some (.int .i64 0) ∧ w'.cell? ⟨w8.heap.size, 1, none⟩ = some (.int .i64 0) ∧ w'.cell? ⟨w10.heap.size, 0, none⟩ = some (.string ⟨#[]⟩) ∧ w'.cell? ⟨w10.heap.size, 1, none⟩ = some (.int .i64 0)) := fun w' h => by
    obtain ⟨q0, q1, q2, q3, q4, q5, q6, q7⟩ := HM10.out w' (below_then (below_alloc' w10 (.cells #[.string ⟨#[]⟩, .int .i64 0] 51)) h)
    exact ⟨q0, q1, q2, q3, q4, q5, q6, q7, below_cell h ((Cel.at w10 (w10.heap.size) 51 #[.string ⟨#[]⟩, .int .i64 0] (by simp)).cell 0 _ rfl), below_cell h ((Cel.at w10 (w10.heap.size) 51 #[.string ⟨#[]⟩, .int .i64 0] (by simp)).cell 1 _ rfl)⟩
  have HB12 := Lib.hid (HB11.out.alloc HB11.out.size (.cells #[.int .i64 0, .int .i64 0] 23))
  have HM12 : Hid (∀ w', Below ((w10.alloc (.cells #[.string ⟨#[]⟩, .int .i64 0] 51)).alloc (.cells #[.int .i64 0, .int .i64 0] 23)).heap.size ((w10.alloc (.cells #[.string ⟨#[]⟩, .int .i64 0] 51)).alloc (.cells #[.int .i64 0, .int .i64 0] 23)) w' → w'.cell? ⟨w1.heap.size, 0, none⟩ = some (.string ⟨#[]⟩) ∧ w'.cell? ⟨w1.heap.size, 1, none⟩ = some (.slice none 0 0) ∧ w'.cell? ⟨w3.heap.size, 0, none⟩ = some (.int .i64 0) ∧ w'.cell? ⟨w3.heap.size, 1, none⟩ = some (.int .i64 0) ∧ w'.cell? ⟨w6.heap.size, 0, none⟩ = some (.int .i64 0) ∧ w'.cell? ⟨w6.heap.size, 1, none⟩ = some (.int .i64 0) ∧ w'.cell? ⟨w8.heap.size, 0, none⟩ = some (.int .i64 0) ∧ w'.cell? ⟨w8.heap.size, 1, none⟩ = some (.int .i64 0) ∧ w'.cell? ⟨w10.heap.size, 0, none⟩ = some (.string ⟨#[]⟩) ∧ w'.cell? ⟨w10.heap.size, 1, none⟩ = some (.int .i64 0) ∧ w'.cell? ⟨w10.heap.size + 1, 0, none⟩ = some (.int .i64 0) ∧ w'.cell? ⟨w10.heap.size + 1, 1, none⟩ = some (.int .i64 0)) := fun w' h => by
    obtain ⟨q0, q1, q2, q3, q4, q5, q6, q7, q8, q9⟩ := HM11.out w' (below_then (below_alloc' (w10.alloc (.cells #[.string ⟨#[]⟩, .int .i64 0] 51)) (.cells #[.int .i64 0, .int .i64 0] 23)) h)
    exact ⟨q0, q1, q2, q3, q4, q5, q6, q7, q8, q9, below_cell h ((Cel.at (w10.alloc (.cells #[.string ⟨#[]⟩, .int .i64 0] 51)) (w10.heap.size + 1) 23 #[.int .i64 0, .int .i64 0] (by simp)).cell 0 _ rfl), below_cell h ((Cel.at (w10.alloc (.cells #[.string ⟨#[]⟩, .int .i64 0] 51)) (w10.heap.size + 1) 23 #[.int .i64 0, .int .i64 0] (by simp)).cell 1 _ rfl)⟩
  have HB13 := Lib.hid (HB12.out.alloc HB12.out.size (.cells #[.int .i64 0, .int .i64 0] 23))
  have HM13 : Hid (∀ w', Below (((w10.alloc (.cells #[.string ⟨#[]⟩, .int .i64 0] 51)).alloc (.cells #[.int .i64 0, .int .i64 0] 23)).alloc (.cells #[.int .i64 0, .int .i64 0] 23)).heap.size (((w10.alloc (.cells #[.string ⟨#[]⟩, .int .i64 0] 51)).alloc (.cells #[.int .i64 0, .int .i64 0] 23)).alloc (.cells #[.int .i64 0, .int .i64 0] 23)) w' → w'.cell? ⟨w1.heap.size, 0, none⟩ = some (.string ⟨#[]⟩) ∧ w'.cell? ⟨w1.heap.size, 1, none⟩ = some (.slice none 0 0) ∧ w'.cell? ⟨w3.heap.size, 0, none⟩ = some (.int .i64 0) ∧ w'.cell? ⟨w3.heap.size, 1, none⟩ = some (.int .i64 0) ∧ w'.cell? ⟨w6.heap.size, 0, none⟩ = some (.int .i64 0) ∧ w'.cell? ⟨w6.heap.size, 1, none⟩ = some (.int .i64 0) ∧ w'.cell? ⟨w8.heap.size, 0, none⟩ = some (.int .i64 0) ∧ w'.cell? ⟨w8.heap.size, 1, none⟩ = some (.int .i64 0) ∧ w'.cell? ⟨w10.heap.size, 0, none⟩ = some (.string ⟨#[]⟩) ∧ w'.cell? ⟨w10.heap.size, 1, none⟩ = some (.int .i64 0) ∧ w'.cell? ⟨w10.heap.size + 1, 0, none⟩ = some (.int .i64 0) ∧ w'.cell? ⟨w10.heap.size + 1, 1, none⟩ = some (.int .i64 0) ∧ w'.cell? ⟨w10.heap.size + 1 + 1, 0, none⟩ = some (.int .i64 0) ∧ w'.cell? ⟨w10.heap.size + 1 + 1, 1, none⟩ = some (.int .i64 0)) := fun w' h => by
    obtain ⟨q0, q1, q2, q3, q4, q5, q6, q7, q8, q9, q10, q11⟩ := HM12.out w' (below_then (below_alloc' ((w10.alloc (.cells #[.string ⟨#[]⟩, .int .i64 0] 51)).alloc (.cells #[.int .i64 0, .int .i64 0] 23)) (.cells #[.int .i64 0, .int .i64 0] 23)) h)
    exact ⟨q0, q1, q2, q3, q4, q5, q6, q7, q8, q9, q10, q11, below_cell h ((Cel.at ((w10.alloc (.cells #[.string ⟨#[]⟩, .int .i64 0] 51)).alloc (.cells #[.int .i64 0, .int .i64 0] 23)) (w10.heap.size + 1 + 1) 23 #[.int .i64 0, .int .i64 0] (by simp)).cell 0 _ rfl), below_cell h ((Cel.at ((w10.alloc (.cells #[.string ⟨#[]⟩, .int .i64 0] 51)).alloc (.cells #[.int .i64 0, .int .i64 0] 23)) (w10.heap.size + 1 + 1) 23 #[.int .i64 0, .int .i64 0] (by simp)).cell 1 _ rfl)⟩
  obtain ⟨g0, g1, g2, g3, g4, g5, g6, g7, g8, g9, g10, g11, g12, g13⟩ := HM13.out _ (Below.refl _ _)
  go_wp2_with fail
  go_fit (KN.out _ HB13.out)
  rintro e w' ⟨rfl, rfl⟩
  go_wp2_with fail
  go_fit (KG.out _ HB13.out)
  rintro e w' ⟨rfl, rfl⟩
  go_wp2
  go_ret
  exact ⟨rfl, HB13.out⟩
end Go.Proofs.YtmibpncmebhbjaaDoor
