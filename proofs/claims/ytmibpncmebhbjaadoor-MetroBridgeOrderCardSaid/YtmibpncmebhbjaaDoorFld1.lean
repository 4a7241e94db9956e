/- grouped and spread: a sum or product of three ratios in both groupings, a product with a sum. -/
import Derived.Test.YtmibpncmebhbjaaDoorMul3
namespace Go.Proofs.YtmibpncmebhbjaaDoor
open Go Go.RowKit Go.Shelf
attribute [local go_sem] Oper.semAt_some rrV

theorem fit_e (q : Rat) : (fit q).e = 0 ∨ (fit q).e = 6 := by
  unfold fit
  split
  · exact .inl rfl
  · exact .inr rfl
def OpOk (F : Nat) (o : Rat → Rat → Rat) : Prop := ∀ N D M E w, Zw w → isR N D = true → isR M E = true → Calls Tryd.prog F #[.agg #[.int .i64 N, .int .i64 D], .agg #[.int .i64 M, .int .i64 E]] w fun e w' => e = .returned (rrV (fit (o (rat N D) (rat M E)))) ∧ Below w.heap.size w w'
theorem isR_Bd' {N D : Int} (h : isR N D = true) : Bd N ∧ Bd D := by
  have := isR_bd h
  unfold Bd; omega
theorem add_ok : OpOk 39 (· + ·) := fun N D M E w hz ha hb => by
  have := add_any N D M E w hz (isR_Bd' ha).1 (isR_Bd' ha).2 (isR_Bd' hb).1 (isR_Bd' hb).2
  rwa [opF_yes ha hb] at this
theorem sub_ok : OpOk 65 (· - ·) := fun N D M E w hz ha hb => by
  have := sub_any N D M E w hz (isR_Bd' ha).1 (isR_Bd' ha).2 (isR_Bd' hb).1 (isR_Bd' hb).2
  rwa [opF_yes ha hb] at this
theorem mul_ok : OpOk 63 (· * ·) := fun N D M E w hz ha hb => by
  have := mul_any N D M E w hz (isR_Bd' ha).1 (isR_Bd' ha).2 (isR_Bd' hb).1 (isR_Bd' hb).2
  rw [opF_yes ha hb] at this
  exact this

set_option maxRecDepth 100000 in
set_option maxHeartbeats 1000000 in
theorem grouped_add (N D M E P G : Int) (w : World) (hz : Zw w) (i1 : isR N D = true) (i2 : isR M E = true) (i3 : isR P G = true) :
    Calls Tryd.prog 67 #[.func (.func 39) #[] #[], .agg #[.int .i64 N, .int .i64 D], .agg #[.int .i64 M, .int .i64 E], .agg #[.int .i64 P, .int .i64 G]] w fun e w' => e = .returned (.bool true) ∧ Below w.heap.size w w' := by
  obtain ⟨W, hW⟩ : ∃ W, ((w.alloc (.cells #[.int .i64 N, .int .i64 D] 23)).alloc (.cells #[.int .i64 M, .int .i64 E] 23)).alloc (.cells #[.int .i64 P, .int .i64 G] 23) = W := ⟨_, rfl⟩
  have hw0 : Below w.heap.size w W := by rw [← hW]; exact ((below_alloc' _ _).alloc (by simp) _).alloc (by simp; omega) _
  have Y0 : Cel W (w.heap.size) 23 #[.int .i64 N, .int .i64 D] := by rw [← hW]; exact ((Cel.at w (w.heap.size) 23 #[.int .i64 N, .int .i64 D] (by simp)).alloc (.cells #[.int .i64 M, .int .i64 E] 23)).alloc (.cells #[.int .i64 P, .int .i64 G] 23)
  have Y1 : Cel W (w.heap.size + 1) 23 #[.int .i64 M, .int .i64 E] := by rw [← hW]; exact (Cel.at (w.alloc (.cells #[.int .i64 N, .int .i64 D] 23)) (w.heap.size + 1) 23 #[.int .i64 M, .int .i64 E] (by simp)).alloc (.cells #[.int .i64 P, .int .i64 G] 23)
  have Y2 : Cel W (w.heap.size + 1 + 1) 23 #[.int .i64 P, .int .i64 G] := by rw [← hW]; exact Cel.at ((w.alloc (.cells #[.int .i64 N, .int .i64 D] 23)).alloc (.cells #[.int .i64 M, .int .i64 E] 23)) (w.heap.size + 1 + 1) 23 #[.int .i64 P, .int .i64 G] (by simp)
  have HM0 : Hid (∀ w', Below W.heap.size W w' → w'.cell? ⟨w.heap.size, 0, none⟩ = some (.int .i64 N) ∧ w'.cell? ⟨w.heap.size, 1, none⟩ = some (.int .i64 D) ∧ w'.cell? ⟨w.heap.size + 1, 0, none⟩ = some (.int .i64 M) ∧ w'.cell? ⟨w.heap.size + 1, 1, none⟩ = some (.int .i64 E) ∧ w'.cell? ⟨w.heap.size + 1 + 1, 0, none⟩ = some (.int .i64 P) ∧ w'.cell? ⟨w.heap.size + 1 + 1, 1, none⟩ = some (.int .i64 G)) := fun w' hb =>
    ⟨(Y0.below Y0.lt hb).cell 0 _ rfl, (Y0.below Y0.lt hb).cell 1 _ rfl, (Y1.below Y1.lt hb).cell 0 _ rfl, (Y1.below Y1.lt hb).cell 1 _ rfl, (Y2.below Y2.lt hb).cell 0 _ rfl, (Y2.below Y2.lt hb).cell 1 _ rfl⟩
  have HB0 := Lib.hid (Below.refl W.heap.size W)
  have HW := Lib.hid hw0
  have HZ : Hid (∀ w', Below W.heap.size W w' → Zw w') := fun w' hb => (hz.below hw0).below hb
  clear Y0 Y1 Y2 hw0 hz
  have K1 : Hid (∀ w', Below W.heap.size W w' → Calls Tryd.prog 39 #[.agg #[.int .i64 N, .int .i64 D], .agg #[.int .i64 M, .int .i64 E]] w' fun e w'' => e = .returned (rrV (fit ((rat N D + rat M E)))) ∧ Below w'.heap.size w' w'') := fun w' hb => add_ok _ _ _ _ w' (HZ.out w' hb) i1 i2
  have K2 : Hid (∀ w', Below W.heap.size W w' → Calls Tryd.prog 39 #[.agg #[.int .i64 M, .int .i64 E], .agg #[.int .i64 P, .int .i64 G]] w' fun e w'' => e = .returned (rrV (fit ((rat M E + rat P G)))) ∧ Below w'.heap.size w' w'') := fun w' hb => add_ok _ _ _ _ w' (HZ.out w' hb) i2 i3
  have HX := Lib.hid (fun h => fit_isR (q := (rat N D + rat M E)) h)
  have HY := Lib.hid (fun h => fit_isR (q := (rat M E + rat P G)) h)
  have hx := fit_e ((rat N D + rat M E))
  have ASS := Lib.hid (Rat.add_assoc (rat N D) (rat M E) (rat P G))
  generalize hA : (rat N D + rat M E) = qA at *
  generalize hB : (rat M E + rat P G) = qB at *
  have HC := Lib.hid add_ok
  have I1 := Lib.hid i1
  have I3 := Lib.hid i3
  clear hA hB i1 i2 i3
  generalize fit qA = x at *
  generalize fit qB = y at *
  obtain ⟨xN, xD, xE⟩ := x
  obtain ⟨yN, yD, yE⟩ := y
  simp only at HX HY hx
  have HX' : Hid (xE = 0 → isR xN xD = true ∧ rat xN xD = qA) := HX
  have HY' : Hid (yE = 0 → isR yN yD = true ∧ rat yN yD = qB) := HY
  clear HX HY
  obtain ⟨g0, g1, g2, g3, g4, g5⟩ := HM0.out W (Below.refl _ _)
  go_enter Tryd.func67, Tryd.ntmps67
  go_wp2_with fail
  go_fit (K1.out _ HB0.out)
  rintro e w1 ⟨rfl, hb⟩
  clear g0 g1 g2 g3 g4 g5
  have HB1 := Lib.hid (below_then HB0.out (hb.alloc hb.size (.cells #[.int .i64 xN, .int .i64 xD] 23)))
  have HM1 : Hid (∀ w', Below (w1.alloc (.cells #[.int .i64 xN, .int .i64 xD] 23)).heap.size (w1.alloc (.cells #[.int .i64 xN, .int .i64 xD] 23)) w' → w'.cell? ⟨w.heap.size, 0, none⟩ = some (.int .i64 N) ∧ w'.cell? ⟨w.heap.size, 1, none⟩ = some (.int .i64 D) ∧ w'.cell? ⟨w.heap.size + 1, 0, none⟩ = some (.int .i64 M) ∧ w'.cell? ⟨w.heap.size + 1, 1, none⟩ = some (.int .i64 E) ∧ w'.cell? ⟨w.heap.size + 1 + 1, 0, none⟩ = some (.int .i64 P) ∧ w'.cell? ⟨w.heap.size + 1 + 1, 1, none⟩ = some (.int .i64 G) ∧ w'.cell? ⟨w1.heap.size, 0, none⟩ = some (.int .i64 xN) ∧ w'.cell? ⟨w1.heap.size, 1, none⟩ = some (.int .i64 xD)) := fun w' h => by
    obtain ⟨q0, q1, q2, q3, q4, q5⟩ := HM0.out w' (below_then (hb.alloc hb.size (.cells #[.int .i64 xN, .int .i64 xD] 23)) h)
    exact ⟨q0, q1, q2, q3, q4, q5, below_cell h ((Cel.new w1 23 #[.int .i64 xN, .int .i64 xD]).cell 0 _ rfl), below_cell h ((Cel.new w1 23 #[.int .i64 xN, .int .i64 xD]).cell 1 _ rfl)⟩
  clear hb
  obtain ⟨g0, g1, g2, g3, g4, g5, g6, g7⟩ := HM1.out _ (Below.refl _ _)
  go_wp2_with fail
  go_fit (K2.out _ HB1.out)
  rintro e w2 ⟨rfl, hb⟩
  clear g0 g1 g2 g3 g4 g5 g6 g7
  have HB2 := Lib.hid (below_then HB1.out (hb.alloc hb.size (.cells #[.int .i64 yN, .int .i64 yD] 23)))
  have HM2 : Hid (∀ w', Below (w2.alloc (.cells #[.int .i64 yN, .int .i64 yD] 23)).heap.size (w2.alloc (.cells #[.int .i64 yN, .int .i64 yD] 23)) w' → w'.cell? ⟨w.heap.size, 0, none⟩ = some (.int .i64 N) ∧ w'.cell? ⟨w.heap.size, 1, none⟩ = some (.int .i64 D) ∧ w'.cell? ⟨w.heap.size + 1, 0, none⟩ = some (.int .i64 M) ∧ w'.cell? ⟨w.heap.size + 1, 1, none⟩ = some (.int .i64 E) ∧ w'.cell? ⟨w.heap.size + 1 + 1, 0, none⟩ = some (.int .i64 P) ∧ w'.cell? ⟨w.heap.size + 1 + 1, 1, none⟩ = some (.int .i64 G) ∧ w'.cell? ⟨w1.heap.size, 0, none⟩ = some (.int .i64 xN) ∧ w'.cell? ⟨w1.heap.size, 1, none⟩ = some (.int .i64 xD) ∧ w'.cell? ⟨w2.heap.size, 0, none⟩ = some (.int .i64 yN) ∧ w'.cell? ⟨w2.heap.size, 1, none⟩ = some (.int .i64 yD)) := fun w' h => by
    obtain ⟨q0, q1, q2, q3, q4, q5, q6, q7⟩ := HM1.out w' (below_then (hb.alloc hb.size (.cells #[.int .i64 yN, .int .i64 yD] 23)) h)
    exact ⟨q0, q1, q2, q3, q4, q5, q6, q7, below_cell h ((Cel.new w2 23 #[.int .i64 yN, .int .i64 yD]).cell 0 _ rfl), below_cell h ((Cel.new w2 23 #[.int .i64 yN, .int .i64 yD]).cell 1 _ rfl)⟩
  clear hb
  obtain ⟨g0, g1, g2, g3, g4, g5, g6, g7, g8, g9⟩ := HM2.out _ (Below.refl _ _)
  rcases hx with hx | hx
  · subst hx
    by_cases hy : yE = 0
    · subst hy
      obtain ⟨jx, qx⟩ := HX'.out rfl
      obtain ⟨jy, qy⟩ := HY'.out rfl
      have K3 : Hid (∀ w', Below W.heap.size W w' → Calls Tryd.prog 39 #[.agg #[.int .i64 xN, .int .i64 xD], .agg #[.int .i64 P, .int .i64 G]] w' fun e w'' => e = .returned (rrV (fit ((qA + rat P G)))) ∧ Below w'.heap.size w' w'') := fun w' hb => by
        have := HC.out _ _ _ _ w' (HZ.out w' hb) jx I3.out
        rwa [qx] at this
      have K4 : Hid (∀ w', Below W.heap.size W w' → Calls Tryd.prog 39 #[.agg #[.int .i64 N, .int .i64 D], .agg #[.int .i64 yN, .int .i64 yD]] w' fun e w'' => e = .returned (rrV (fit ((qA + rat P G)))) ∧ Below w'.heap.size w' w'') := fun w' hb => by
        have := HC.out _ _ _ _ w' (HZ.out w' hb) I1.out jy
        rw [qy] at this
        rw [ASS.out]; exact this
      clear jx qx jy qy
      generalize fit ((qA + rat P G)) = z at *
      obtain ⟨zN, zD, zE⟩ := z
      go_wp2_with fail
      go_fit (K3.out _ HB2.out)
      rintro e w3 ⟨rfl, hb⟩
      clear g0 g1 g2 g3 g4 g5 g6 g7 g8 g9
      have HB3 := Lib.hid (below_then HB2.out (hb.alloc hb.size (.cells #[.int .i64 zN, .int .i64 zD] 23)))
      have HM3 : Hid (∀ w', Below (w3.alloc (.cells #[.int .i64 zN, .int .i64 zD] 23)).heap.size (w3.alloc (.cells #[.int .i64 zN, .int .i64 zD] 23)) w' → w'.cell? ⟨w.heap.size, 0, none⟩ = some (.int .i64 N) ∧ w'.cell? ⟨w.heap.size, 1, none⟩ = some (.int .i64 D) ∧ w'.cell? ⟨w.heap.size + 1, 0, none⟩ = some (.int .i64 M) ∧ w'.cell? ⟨w.heap.size + 1, 1, none⟩ = some (.int .i64 E) ∧ w'.cell? ⟨w.heap.size + 1 + 1, 0, none⟩ = some (.int .i64 P) ∧ w'.cell? ⟨w.heap.size + 1 + 1, 1, none⟩ = some (.int .i64 G) ∧ w'.cell? ⟨w1.heap.size, 0, none⟩ = some (.int .i64 xN) ∧ w'.cell? ⟨w1.heap.size, 1, none⟩ = some (.int .i64 xD) ∧ w'.cell? ⟨w2.heap.size, 0, none⟩ = some (.int .i64 yN) ∧ w'.cell? ⟨w2.heap.size, 1, none⟩ = some (.int .i64 yD) ∧ w'.cell? ⟨w3.heap.size, 0, none⟩ = some (.int .i64 zN) ∧ w'.cell? ⟨w3.heap.size, 1, none⟩ = some (.int .i64 zD)) := fun w' h => by
        obtain ⟨q0, q1, q2, q3, q4, q5, q6, q7, q8, q9⟩ := HM2.out w' (below_then (hb.alloc hb.size (.cells #[.int .i64 zN, .int .i64 zD] 23)) h)
        exact ⟨q0, q1, q2, q3, q4, q5, q6, q7, q8, q9, below_cell h ((Cel.new w3 23 #[.int .i64 zN, .int .i64 zD]).cell 0 _ rfl), below_cell h ((Cel.new w3 23 #[.int .i64 zN, .int .i64 zD]).cell 1 _ rfl)⟩
      clear hb
      obtain ⟨g0, g1, g2, g3, g4, g5, g6, g7, g8, g9, g10, g11⟩ := HM3.out _ (Below.refl _ _)
      go_wp2_with fail
      go_fit (K4.out _ HB3.out)
      rintro e w4 ⟨rfl, hb⟩
      clear g0 g1 g2 g3 g4 g5 g6 g7 g8 g9 g10 g11
      have HB4 := Lib.hid (below_then HB3.out (hb.alloc hb.size (.cells #[.int .i64 zN, .int .i64 zD] 23)))
      have HM4 : Hid (∀ w', Below (w4.alloc (.cells #[.int .i64 zN, .int .i64 zD] 23)).heap.size (w4.alloc (.cells #[.int .i64 zN, .int .i64 zD] 23)) w' → w'.cell? ⟨w.heap.size, 0, none⟩ = some (.int .i64 N) ∧ w'.cell? ⟨w.heap.size, 1, none⟩ = some (.int .i64 D) ∧ w'.cell? ⟨w.heap.size + 1, 0, none⟩ = some (.int .i64 M) ∧ w'.cell? ⟨w.heap.size + 1, 1, none⟩ = some (.int .i64 E) ∧ w'.cell? ⟨w.heap.size + 1 + 1, 0, none⟩ = some (.int .i64 P) ∧ w'.cell? ⟨w.heap.size + 1 + 1, 1, none⟩ = some (.int .i64 G) ∧ w'.cell? ⟨w1.heap.size, 0, none⟩ = some (.int .i64 xN) ∧ w'.cell? ⟨w1.heap.size, 1, none⟩ = some (.int .i64 xD) ∧ w'.cell? ⟨w2.heap.size, 0, none⟩ = some (.int .i64 yN) ∧ w'.cell? ⟨w2.heap.size, 1, none⟩ = some (.int .i64 yD) ∧ w'.cell? ⟨w3.heap.size, 0, none⟩ = some (.int .i64 zN) ∧ w'.cell? ⟨w3.heap.size, 1, none⟩ = some (.int .i64 zD) ∧ w'.cell? ⟨w4.heap.size, 0, none⟩ = some (.int .i64 zN) ∧ w'.cell? ⟨w4.heap.size, 1, none⟩ = some (.int .i64 zD)) := fun w' h => by
        obtain ⟨q0, q1, q2, q3, q4, q5, q6, q7, q8, q9, q10, q11⟩ := HM3.out w' (below_then (hb.alloc hb.size (.cells #[.int .i64 zN, .int .i64 zD] 23)) h)
        exact ⟨q0, q1, q2, q3, q4, q5, q6, q7, q8, q9, q10, q11, below_cell h ((Cel.new w4 23 #[.int .i64 zN, .int .i64 zD]).cell 0 _ rfl), below_cell h ((Cel.new w4 23 #[.int .i64 zN, .int .i64 zD]).cell 1 _ rfl)⟩
      clear hb
      obtain ⟨g0, g1, g2, g3, g4, g5, g6, g7, g8, g9, g10, g11, g12, g13⟩ := HM4.out _ (Below.refl _ _)
      go_wp2
      go_ret
      exact ⟨rfl, below_then HW.out HB4.out⟩
    · have by1 : (yE != 0) = true := by simpa using hy
      have by2 : (yE == 0) = false := by simpa using hy
      clear hy
      go_wp2
      go_ret
      exact ⟨rfl, below_then HW.out HB2.out⟩
  · subst hx
    go_wp2
    go_ret
    exact ⟨rfl, below_then HW.out HB2.out⟩



set_option maxRecDepth 100000 in
set_option maxHeartbeats 1000000 in
theorem grouped_mul (N D M E P G : Int) (w : World) (hz : Zw w) (i1 : isR N D = true) (i2 : isR M E = true) (i3 : isR P G = true) :
    Calls Tryd.prog 67 #[.func (.func 63) #[] #[], .agg #[.int .i64 N, .int .i64 D], .agg #[.int .i64 M, .int .i64 E], .agg #[.int .i64 P, .int .i64 G]] w fun e w' => e = .returned (.bool true) ∧ Below w.heap.size w w' := by
  obtain ⟨W, hW⟩ : ∃ W, ((w.alloc (.cells #[.int .i64 N, .int .i64 D] 23)).alloc (.cells #[.int .i64 M, .int .i64 E] 23)).alloc (.cells #[.int .i64 P, .int .i64 G] 23) = W := ⟨_, rfl⟩
  have hw0 : Below w.heap.size w W := by rw [← hW]; exact ((below_alloc' _ _).alloc (by simp) _).alloc (by simp; omega) _
  have Y0 : Cel W (w.heap.size) 23 #[.int .i64 N, .int .i64 D] := by rw [← hW]; exact ((Cel.at w (w.heap.size) 23 #[.int .i64 N, .int .i64 D] (by simp)).alloc (.cells #[.int .i64 M, .int .i64 E] 23)).alloc (.cells #[.int .i64 P, .int .i64 G] 23)
  have Y1 : Cel W (w.heap.size + 1) 23 #[.int .i64 M, .int .i64 E] := by rw [← hW]; exact (Cel.at (w.alloc (.cells #[.int .i64 N, .int .i64 D] 23)) (w.heap.size + 1) 23 #[.int .i64 M, .int .i64 E] (by simp)).alloc (.cells #[.int .i64 P, .int .i64 G] 23)
  have Y2 : Cel W (w.heap.size + 1 + 1) 23 #[.int .i64 P, .int .i64 G] := by rw [← hW]; exact Cel.at ((w.alloc (.cells #[.int .i64 N, .int .i64 D] 23)).alloc (.cells #[.int .i64 M, .int .i64 E] 23)) (w.heap.size + 1 + 1) 23 #[.int .i64 P, .int .i64 G] (by simp)
  have HM0 : Hid (∀ w', Below W.heap.size W w' → w'.cell? ⟨w.heap.size, 0, none⟩ = some (.int .i64 N) ∧ w'.cell? ⟨w.heap.size, 1, none⟩ = some (.int .i64 D) ∧ w'.cell? ⟨w.heap.size + 1, 0, none⟩ = some (.int .i64 M) ∧ w'.cell? ⟨w.heap.size + 1, 1, none⟩ = some (.int .i64 E) ∧ w'.cell? ⟨w.heap.size + 1 + 1, 0, none⟩ = some (.int .i64 P) ∧ w'.cell? ⟨w.heap.size + 1 + 1, 1, none⟩ = some (.int .i64 G)) := fun w' hb =>
    ⟨(Y0.below Y0.lt hb).cell 0 _ rfl, (Y0.below Y0.lt hb).cell 1 _ rfl, (Y1.below Y1.lt hb).cell 0 _ rfl, (Y1.below Y1.lt hb).cell 1 _ rfl, (Y2.below Y2.lt hb).cell 0 _ rfl, (Y2.below Y2.lt hb).cell 1 _ rfl⟩
  have HB0 := Lib.hid (Below.refl W.heap.size W)
  have HW := Lib.hid hw0
  have HZ : Hid (∀ w', Below W.heap.size W w' → Zw w') := fun w' hb => (hz.below hw0).below hb
  clear Y0 Y1 Y2 hw0 hz
  have K1 : Hid (∀ w', Below W.heap.size W w' → Calls Tryd.prog 63 #[.agg #[.int .i64 N, .int .i64 D], .agg #[.int .i64 M, .int .i64 E]] w' fun e w'' => e = .returned (rrV (fit ((rat N D * rat M E)))) ∧ Below w'.heap.size w' w'') := fun w' hb => mul_ok _ _ _ _ w' (HZ.out w' hb) i1 i2
  have K2 : Hid (∀ w', Below W.heap.size W w' → Calls Tryd.prog 63 #[.agg #[.int .i64 M, .int .i64 E], .agg #[.int .i64 P, .int .i64 G]] w' fun e w'' => e = .returned (rrV (fit ((rat M E * rat P G)))) ∧ Below w'.heap.size w' w'') := fun w' hb => mul_ok _ _ _ _ w' (HZ.out w' hb) i2 i3
  have HX := Lib.hid (fun h => fit_isR (q := (rat N D * rat M E)) h)
  have HY := Lib.hid (fun h => fit_isR (q := (rat M E * rat P G)) h)
  have hx := fit_e ((rat N D * rat M E))
  have ASS := Lib.hid (Rat.mul_assoc (rat N D) (rat M E) (rat P G))
  generalize hA : (rat N D * rat M E) = qA at *
  generalize hB : (rat M E * rat P G) = qB at *
  have HC := Lib.hid mul_ok
  have I1 := Lib.hid i1
  have I3 := Lib.hid i3
  clear hA hB i1 i2 i3
  generalize fit qA = x at *
  generalize fit qB = y at *
  obtain ⟨xN, xD, xE⟩ := x
  obtain ⟨yN, yD, yE⟩ := y
  simp only at HX HY hx
  have HX' : Hid (xE = 0 → isR xN xD = true ∧ rat xN xD = qA) := HX
  have HY' : Hid (yE = 0 → isR yN yD = true ∧ rat yN yD = qB) := HY
  clear HX HY
  obtain ⟨g0, g1, g2, g3, g4, g5⟩ := HM0.out W (Below.refl _ _)
  go_enter Tryd.func67, Tryd.ntmps67
  go_wp2_with fail
  go_fit (K1.out _ HB0.out)
  rintro e w1 ⟨rfl, hb⟩
  clear g0 g1 g2 g3 g4 g5
  have HB1 := Lib.hid (below_then HB0.out (hb.alloc hb.size (.cells #[.int .i64 xN, .int .i64 xD] 23)))
  have HM1 : Hid (∀ w', Below (w1.alloc (.cells #[.int .i64 xN, .int .i64 xD] 23)).heap.size (w1.alloc (.cells #[.int .i64 xN, .int .i64 xD] 23)) w' → w'.cell? ⟨w.heap.size, 0, none⟩ = some (.int .i64 N) ∧ w'.cell? ⟨w.heap.size, 1, none⟩ = some (.int .i64 D) ∧ w'.cell? ⟨w.heap.size + 1, 0, none⟩ = some (.int .i64 M) ∧ w'.cell? ⟨w.heap.size + 1, 1, none⟩ = some (.int .i64 E) ∧ w'.cell? ⟨w.heap.size + 1 + 1, 0, none⟩ = some (.int .i64 P) ∧ w'.cell? ⟨w.heap.size + 1 + 1, 1, none⟩ = some (.int .i64 G) ∧ w'.cell? ⟨w1.heap.size, 0, none⟩ = some (.int .i64 xN) ∧ w'.cell? ⟨w1.heap.size, 1, none⟩ = some (.int .i64 xD)) := fun w' h => by
    obtain ⟨q0, q1, q2, q3, q4, q5⟩ := HM0.out w' (below_then (hb.alloc hb.size (.cells #[.int .i64 xN, .int .i64 xD] 23)) h)
    exact ⟨q0, q1, q2, q3, q4, q5, below_cell h ((Cel.new w1 23 #[.int .i64 xN, .int .i64 xD]).cell 0 _ rfl), below_cell h ((Cel.new w1 23 #[.int .i64 xN, .int .i64 xD]).cell 1 _ rfl)⟩
  clear hb
  obtain ⟨g0, g1, g2, g3, g4, g5, g6, g7⟩ := HM1.out _ (Below.refl _ _)
  go_wp2_with fail
  go_fit (K2.out _ HB1.out)
  rintro e w2 ⟨rfl, hb⟩
  clear g0 g1 g2 g3 g4 g5 g6 g7
  have HB2 := Lib.hid (below_then HB1.out (hb.alloc hb.size (.cells #[.int .i64 yN, .int .i64 yD] 23)))
  have HM2 : Hid (∀ w', Below (w2.alloc (.cells #[.int .i64 yN, .int .i64 yD] 23)).heap.size (w2.alloc (.cells #[.int .i64 yN, .int .i64 yD] 23)) w' → w'.cell? ⟨w.heap.size, 0, none⟩ = some (.int .i64 N) ∧ w'.cell? ⟨w.heap.size, 1, none⟩ = some (.int .i64 D) ∧ w'.cell? ⟨w.heap.size + 1, 0, none⟩ = some (.int .i64 M) ∧ w'.cell? ⟨w.heap.size + 1, 1, none⟩ = some (.int .i64 E) ∧ w'.cell? ⟨w.heap.size + 1 + 1, 0, none⟩ = some (.int .i64 P) ∧ w'.cell? ⟨w.heap.size + 1 + 1, 1, none⟩ = some (.int .i64 G) ∧ w'.cell? ⟨w1.heap.size, 0, none⟩ = some (.int .i64 xN) ∧ w'.cell? ⟨w1.heap.size, 1, none⟩ = some (.int .i64 xD) ∧ w'.cell? ⟨w2.heap.size, 0, none⟩ = some (.int .i64 yN) ∧ w'.cell? ⟨w2.heap.size, 1, none⟩ = some (.int .i64 yD)) := fun w' h => by
    obtain ⟨q0, q1, q2, q3, q4, q5, q6, q7⟩ := HM1.out w' (below_then (hb.alloc hb.size (.cells #[.int .i64 yN, .int .i64 yD] 23)) h)
    exact ⟨q0, q1, q2, q3, q4, q5, q6, q7, below_cell h ((Cel.new w2 23 #[.int .i64 yN, .int .i64 yD]).cell 0 _ rfl), below_cell h ((Cel.new w2 23 #[.int .i64 yN, .int .i64 yD]).cell 1 _ rfl)⟩
  clear hb
  obtain ⟨g0, g1, g2, g3, g4, g5, g6, g7, g8, g9⟩ := HM2.out _ (Below.refl _ _)
  rcases hx with hx | hx
  · subst hx
    by_cases hy : yE = 0
    · subst hy
      obtain ⟨jx, qx⟩ := HX'.out rfl
      obtain ⟨jy, qy⟩ := HY'.out rfl
      have K3 : Hid (∀ w', Below W.heap.size W w' → Calls Tryd.prog 63 #[.agg #[.int .i64 xN, .int .i64 xD], .agg #[.int .i64 P, .int .i64 G]] w' fun e w'' => e = .returned (rrV (fit ((qA * rat P G)))) ∧ Below w'.heap.size w' w'') := fun w' hb => by
        have := HC.out _ _ _ _ w' (HZ.out w' hb) jx I3.out
        rwa [qx] at this
      have K4 : Hid (∀ w', Below W.heap.size W w' → Calls Tryd.prog 63 #[.agg #[.int .i64 N, .int .i64 D], .agg #[.int .i64 yN, .int .i64 yD]] w' fun e w'' => e = .returned (rrV (fit ((qA * rat P G)))) ∧ Below w'.heap.size w' w'') := fun w' hb => by
        have := HC.out _ _ _ _ w' (HZ.out w' hb) I1.out jy
        rw [qy] at this
        rw [ASS.out]; exact this
      clear jx qx jy qy
      generalize fit ((qA * rat P G)) = z at *
      obtain ⟨zN, zD, zE⟩ := z
      go_wp2_with fail
      go_fit (K3.out _ HB2.out)
      rintro e w3 ⟨rfl, hb⟩
      clear g0 g1 g2 g3 g4 g5 g6 g7 g8 g9
      have HB3 := Lib.hid (below_then HB2.out (hb.alloc hb.size (.cells #[.int .i64 zN, .int .i64 zD] 23)))
      have HM3 : Hid (∀ w', Below (w3.alloc (.cells #[.int .i64 zN, .int .i64 zD] 23)).heap.size (w3.alloc (.cells #[.int .i64 zN, .int .i64 zD] 23)) w' → w'.cell? ⟨w.heap.size, 0, none⟩ = some (.int .i64 N) ∧ w'.cell? ⟨w.heap.size, 1, none⟩ = some (.int .i64 D) ∧ w'.cell? ⟨w.heap.size + 1, 0, none⟩ = some (.int .i64 M) ∧ w'.cell? ⟨w.heap.size + 1, 1, none⟩ = some (.int .i64 E) ∧ w'.cell? ⟨w.heap.size + 1 + 1, 0, none⟩ = some (.int .i64 P) ∧ w'.cell? ⟨w.heap.size + 1 + 1, 1, none⟩ = some (.int .i64 G) ∧ w'.cell? ⟨w1.heap.size, 0, none⟩ = some (.int .i64 xN) ∧ w'.cell? ⟨w1.heap.size, 1, none⟩ = some (.int .i64 xD) ∧ w'.cell? ⟨w2.heap.size, 0, none⟩ = some (.int .i64 yN) ∧ w'.cell? ⟨w2.heap.size, 1, none⟩ = some (.int .i64 yD) ∧ w'.cell? ⟨w3.heap.size, 0, none⟩ = some (.int .i64 zN) ∧ w'.cell? ⟨w3.heap.size, 1, none⟩ = some (.int .i64 zD)) := fun w' h => by
        obtain ⟨q0, q1, q2, q3, q4, q5, q6, q7, q8, q9⟩ := HM2.out w' (below_then (hb.alloc hb.size (.cells #[.int .i64 zN, .int .i64 zD] 23)) h)
        exact ⟨q0, q1, q2, q3, q4, q5, q6, q7, q8, q9, below_cell h ((Cel.new w3 23 #[.int .i64 zN, .int .i64 zD]).cell 0 _ rfl), below_cell h ((Cel.new w3 23 #[.int .i64 zN, .int .i64 zD]).cell 1 _ rfl)⟩
      clear hb
      obtain ⟨g0, g1, g2, g3, g4, g5, g6, g7, g8, g9, g10, g11⟩ := HM3.out _ (Below.refl _ _)
      go_wp2_with fail
      go_fit (K4.out _ HB3.out)
      rintro e w4 ⟨rfl, hb⟩
      clear g0 g1 g2 g3 g4 g5 g6 g7 g8 g9 g10 g11
      have HB4 := Lib.hid (below_then HB3.out (hb.alloc hb.size (.cells #[.int .i64 zN, .int .i64 zD] 23)))
      have HM4 : Hid (∀ w', Below (w4.alloc (.cells #[.int .i64 zN, .int .i64 zD] 23)).heap.size (w4.alloc (.cells #[.int .i64 zN, .int .i64 zD] 23)) w' → w'.cell? ⟨w.heap.size, 0, none⟩ = some (.int .i64 N) ∧ w'.cell? ⟨w.heap.size, 1, none⟩ = some (.int .i64 D) ∧ w'.cell? ⟨w.heap.size + 1, 0, none⟩ = some (.int .i64 M) ∧ w'.cell? ⟨w.heap.size + 1, 1, none⟩ = some (.int .i64 E) ∧ w'.cell? ⟨w.heap.size + 1 + 1, 0, none⟩ = some (.int .i64 P) ∧ w'.cell? ⟨w.heap.size + 1 + 1, 1, none⟩ = some (.int .i64 G) ∧ w'.cell? ⟨w1.heap.size, 0, none⟩ = some (.int .i64 xN) ∧ w'.cell? ⟨w1.heap.size, 1, none⟩ = some (.int .i64 xD) ∧ w'.cell? ⟨w2.heap.size, 0, none⟩ = some (.int .i64 yN) ∧ w'.cell? ⟨w2.heap.size, 1, none⟩ = some (.int .i64 yD) ∧ w'.cell? ⟨w3.heap.size, 0, none⟩ = some (.int .i64 zN) ∧ w'.cell? ⟨w3.heap.size, 1, none⟩ = some (.int .i64 zD) ∧ w'.cell? ⟨w4.heap.size, 0, none⟩ = some (.int .i64 zN) ∧ w'.cell? ⟨w4.heap.size, 1, none⟩ = some (.int .i64 zD)) := fun w' h => by
        obtain ⟨q0, q1, q2, q3, q4, q5, q6, q7, q8, q9, q10, q11⟩ := HM3.out w' (below_then (hb.alloc hb.size (.cells #[.int .i64 zN, .int .i64 zD] 23)) h)
        exact ⟨q0, q1, q2, q3, q4, q5, q6, q7, q8, q9, q10, q11, below_cell h ((Cel.new w4 23 #[.int .i64 zN, .int .i64 zD]).cell 0 _ rfl), below_cell h ((Cel.new w4 23 #[.int .i64 zN, .int .i64 zD]).cell 1 _ rfl)⟩
      clear hb
      obtain ⟨g0, g1, g2, g3, g4, g5, g6, g7, g8, g9, g10, g11, g12, g13⟩ := HM4.out _ (Below.refl _ _)
      go_wp2
      go_ret
      exact ⟨rfl, below_then HW.out HB4.out⟩
    · have by1 : (yE != 0) = true := by simpa using hy
      have by2 : (yE == 0) = false := by simpa using hy
      clear hy
      go_wp2
      go_ret
      exact ⟨rfl, below_then HW.out HB2.out⟩
  · subst hx
    go_wp2
    go_ret
    exact ⟨rfl, below_then HW.out HB2.out⟩



set_option maxRecDepth 100000 in
set_option maxHeartbeats 1000000 in
theorem spread_any (N D M E P G : Int) (w : World) (hz : Zw w) (i1 : isR N D = true) (i2 : isR M E = true) (i3 : isR P G = true) :
    Calls Tryd.prog 68 #[.agg #[.int .i64 N, .int .i64 D], .agg #[.int .i64 M, .int .i64 E], .agg #[.int .i64 P, .int .i64 G]] w fun e w' => e = .returned (.bool true) ∧ Below w.heap.size w w' := by
  obtain ⟨W, hW⟩ : ∃ W, ((w.alloc (.cells #[.int .i64 N, .int .i64 D] 23)).alloc (.cells #[.int .i64 M, .int .i64 E] 23)).alloc (.cells #[.int .i64 P, .int .i64 G] 23) = W := ⟨_, rfl⟩
  have hw0 : Below w.heap.size w W := by rw [← hW]; exact ((below_alloc' _ _).alloc (by simp) _).alloc (by simp; omega) _
  have Y0 : Cel W (w.heap.size) 23 #[.int .i64 N, .int .i64 D] := by rw [← hW]; exact ((Cel.at w (w.heap.size) 23 #[.int .i64 N, .int .i64 D] (by simp)).alloc (.cells #[.int .i64 M, .int .i64 E] 23)).alloc (.cells #[.int .i64 P, .int .i64 G] 23)
  have Y1 : Cel W (w.heap.size + 1) 23 #[.int .i64 M, .int .i64 E] := by rw [← hW]; exact (Cel.at (w.alloc (.cells #[.int .i64 N, .int .i64 D] 23)) (w.heap.size + 1) 23 #[.int .i64 M, .int .i64 E] (by simp)).alloc (.cells #[.int .i64 P, .int .i64 G] 23)
  have Y2 : Cel W (w.heap.size + 1 + 1) 23 #[.int .i64 P, .int .i64 G] := by rw [← hW]; exact Cel.at ((w.alloc (.cells #[.int .i64 N, .int .i64 D] 23)).alloc (.cells #[.int .i64 M, .int .i64 E] 23)) (w.heap.size + 1 + 1) 23 #[.int .i64 P, .int .i64 G] (by simp)
  have HM0 : Hid (∀ w', Below W.heap.size W w' → w'.cell? ⟨w.heap.size, 0, none⟩ = some (.int .i64 N) ∧ w'.cell? ⟨w.heap.size, 1, none⟩ = some (.int .i64 D) ∧ w'.cell? ⟨w.heap.size + 1, 0, none⟩ = some (.int .i64 M) ∧ w'.cell? ⟨w.heap.size + 1, 1, none⟩ = some (.int .i64 E) ∧ w'.cell? ⟨w.heap.size + 1 + 1, 0, none⟩ = some (.int .i64 P) ∧ w'.cell? ⟨w.heap.size + 1 + 1, 1, none⟩ = some (.int .i64 G)) := fun w' hb =>
    ⟨(Y0.below Y0.lt hb).cell 0 _ rfl, (Y0.below Y0.lt hb).cell 1 _ rfl, (Y1.below Y1.lt hb).cell 0 _ rfl, (Y1.below Y1.lt hb).cell 1 _ rfl, (Y2.below Y2.lt hb).cell 0 _ rfl, (Y2.below Y2.lt hb).cell 1 _ rfl⟩
  have HB0 := Lib.hid (Below.refl W.heap.size W)
  have HW := Lib.hid hw0
  have HZ : Hid (∀ w', Below W.heap.size W w' → Zw w') := fun w' hb => (hz.below hw0).below hb
  clear Y0 Y1 Y2 hw0 hz
  have K1 : Hid (∀ w', Below W.heap.size W w' → Calls Tryd.prog 39 #[.agg #[.int .i64 M, .int .i64 E], .agg #[.int .i64 P, .int .i64 G]] w' fun e w'' => e = .returned (rrV (fit (rat M E + rat P G))) ∧ Below w'.heap.size w' w'') := fun w' hb => add_ok _ _ _ _ w' (HZ.out w' hb) i2 i3
  have K2 : Hid (∀ w', Below W.heap.size W w' → Calls Tryd.prog 63 #[.agg #[.int .i64 N, .int .i64 D], .agg #[.int .i64 M, .int .i64 E]] w' fun e w'' => e = .returned (rrV (fit (rat N D * rat M E))) ∧ Below w'.heap.size w' w'') := fun w' hb => mul_ok _ _ _ _ w' (HZ.out w' hb) i1 i2
  have K3 : Hid (∀ w', Below W.heap.size W w' → Calls Tryd.prog 63 #[.agg #[.int .i64 N, .int .i64 D], .agg #[.int .i64 P, .int .i64 G]] w' fun e w'' => e = .returned (rrV (fit (rat N D * rat P G))) ∧ Below w'.heap.size w' w'') := fun w' hb => mul_ok _ _ _ _ w' (HZ.out w' hb) i1 i3
  have HX := Lib.hid (fun h => fit_isR (q := rat M E + rat P G) h)
  have HY := Lib.hid (fun h => fit_isR (q := rat N D * rat M E) h)
  have HV := Lib.hid (fun h => fit_isR (q := rat N D * rat P G) h)
  have ASS := Lib.hid (show rat N D * (rat M E + rat P G) = rat N D * rat M E + rat N D * rat P G by grind)
  generalize hA : rat M E + rat P G = qA at *
  generalize hB : rat N D * rat M E = qB at *
  generalize hC : rat N D * rat P G = qC at *
  have I1 := Lib.hid i1
  clear hA hB hC i1 i2 i3
  generalize fit qA = x at *
  generalize fit qB = y at *
  generalize fit qC = v at *
  obtain ⟨xN, xD, xE⟩ := x
  obtain ⟨yN, yD, yE⟩ := y
  obtain ⟨vN, vD, vE⟩ := v
  have HX' : Hid (xE = 0 → isR xN xD = true ∧ rat xN xD = qA) := HX
  have HY' : Hid (yE = 0 → isR yN yD = true ∧ rat yN yD = qB) := HY
  have HV' : Hid (vE = 0 → isR vN vD = true ∧ rat vN vD = qC) := HV
  clear HX HY HV
  obtain ⟨g0, g1, g2, g3, g4, g5⟩ := HM0.out W (Below.refl _ _)
  go_enter Tryd.func68, Tryd.ntmps68
  go_wp2_with fail
  go_fit (K1.out _ HB0.out)
  rintro e w1 ⟨rfl, hb⟩
  clear g0 g1 g2 g3 g4 g5
  have HB1 := Lib.hid (below_then HB0.out (hb.alloc hb.size (.cells #[.int .i64 xN, .int .i64 xD] 23)))
  have HM1 : Hid (∀ w', Below (w1.alloc (.cells #[.int .i64 xN, .int .i64 xD] 23)).heap.size (w1.alloc (.cells #[.int .i64 xN, .int .i64 xD] 23)) w' → w'.cell? ⟨w.heap.size, 0, none⟩ = some (.int .i64 N) ∧ w'.cell? ⟨w.heap.size, 1, none⟩ = some (.int .i64 D) ∧ w'.cell? ⟨w.heap.size + 1, 0, none⟩ = some (.int .i64 M) ∧ w'.cell? ⟨w.heap.size + 1, 1, none⟩ = some (.int .i64 E) ∧ w'.cell? ⟨w.heap.size + 1 + 1, 0, none⟩ = some (.int .i64 P) ∧ w'.cell? ⟨w.heap.size + 1 + 1, 1, none⟩ = some (.int .i64 G) ∧ w'.cell? ⟨w1.heap.size, 0, none⟩ = some (.int .i64 xN) ∧ w'.cell? ⟨w1.heap.size, 1, none⟩ = some (.int .i64 xD)) := fun w' h => by
    obtain ⟨q0, q1, q2, q3, q4, q5⟩ := HM0.out w' (below_then (hb.alloc hb.size (.cells #[.int .i64 xN, .int .i64 xD] 23)) h)
    exact ⟨q0, q1, q2, q3, q4, q5, below_cell h ((Cel.new w1 23 #[.int .i64 xN, .int .i64 xD]).cell 0 _ rfl), below_cell h ((Cel.new w1 23 #[.int .i64 xN, .int .i64 xD]).cell 1 _ rfl)⟩
  clear hb
  obtain ⟨g0, g1, g2, g3, g4, g5, g6, g7⟩ := HM1.out _ (Below.refl _ _)
  go_wp2_with fail
  go_fit (K2.out _ HB1.out)
  rintro e w2 ⟨rfl, hb⟩
  clear g0 g1 g2 g3 g4 g5 g6 g7
  have HB2 := Lib.hid (below_then HB1.out (hb.alloc hb.size (.cells #[.int .i64 yN, .int .i64 yD] 23)))
  have HM2 : Hid (∀ w', Below (w2.alloc (.cells #[.int .i64 yN, .int .i64 yD] 23)).heap.size (w2.alloc (.cells #[.int .i64 yN, .int .i64 yD] 23)) w' → w'.cell? ⟨w.heap.size, 0, none⟩ = some (.int .i64 N) ∧ w'.cell? ⟨w.heap.size, 1, none⟩ = some (.int .i64 D) ∧ w'.cell? ⟨w.heap.size + 1, 0, none⟩ = some (.int .i64 M) ∧ w'.cell? ⟨w.heap.size + 1, 1, none⟩ = some (.int .i64 E) ∧ w'.cell? ⟨w.heap.size + 1 + 1, 0, none⟩ = some (.int .i64 P) ∧ w'.cell? ⟨w.heap.size + 1 + 1, 1, none⟩ = some (.int .i64 G) ∧ w'.cell? ⟨w1.heap.size, 0, none⟩ = some (.int .i64 xN) ∧ w'.cell? ⟨w1.heap.size, 1, none⟩ = some (.int .i64 xD) ∧ w'.cell? ⟨w2.heap.size, 0, none⟩ = some (.int .i64 yN) ∧ w'.cell? ⟨w2.heap.size, 1, none⟩ = some (.int .i64 yD)) := fun w' h => by
    obtain ⟨q0, q1, q2, q3, q4, q5, q6, q7⟩ := HM1.out w' (below_then (hb.alloc hb.size (.cells #[.int .i64 yN, .int .i64 yD] 23)) h)
    exact ⟨q0, q1, q2, q3, q4, q5, q6, q7, below_cell h ((Cel.new w2 23 #[.int .i64 yN, .int .i64 yD]).cell 0 _ rfl), below_cell h ((Cel.new w2 23 #[.int .i64 yN, .int .i64 yD]).cell 1 _ rfl)⟩
  clear hb
  obtain ⟨g0, g1, g2, g3, g4, g5, g6, g7, g8, g9⟩ := HM2.out _ (Below.refl _ _)
  go_wp2_with fail
  go_fit (K3.out _ HB2.out)
  rintro e w3 ⟨rfl, hb⟩
  clear g0 g1 g2 g3 g4 g5 g6 g7 g8 g9
  have HB3 := Lib.hid (below_then HB2.out (hb.alloc hb.size (.cells #[.int .i64 vN, .int .i64 vD] 23)))
  have HM3 : Hid (∀ w', Below (w3.alloc (.cells #[.int .i64 vN, .int .i64 vD] 23)).heap.size (w3.alloc (.cells #[.int .i64 vN, .int .i64 vD] 23)) w' → w'.cell? ⟨w.heap.size, 0, none⟩ = some (.int .i64 N) ∧ w'.cell? ⟨w.heap.size, 1, none⟩ = some (.int .i64 D) ∧ w'.cell? ⟨w.heap.size + 1, 0, none⟩ = some (.int .i64 M) ∧ w'.cell? ⟨w.heap.size + 1, 1, none⟩ = some (.int .i64 E) ∧ w'.cell? ⟨w.heap.size + 1 + 1, 0, none⟩ = some (.int .i64 P) ∧ w'.cell? ⟨w.heap.size + 1 + 1, 1, none⟩ = some (.int .i64 G) ∧ w'.cell? ⟨w1.heap.size, 0, none⟩ = some (.int .i64 xN) ∧ w'.cell? ⟨w1.heap.size, 1, none⟩ = some (.int .i64 xD) ∧ w'.cell? ⟨w2.heap.size, 0, none⟩ = some (.int .i64 yN) ∧ w'.cell? ⟨w2.heap.size, 1, none⟩ = some (.int .i64 yD) ∧ w'.cell? ⟨w3.heap.size, 0, none⟩ = some (.int .i64 vN) ∧ w'.cell? ⟨w3.heap.size, 1, none⟩ = some (.int .i64 vD)) := fun w' h => by
    obtain ⟨q0, q1, q2, q3, q4, q5, q6, q7, q8, q9⟩ := HM2.out w' (below_then (hb.alloc hb.size (.cells #[.int .i64 vN, .int .i64 vD] 23)) h)
    exact ⟨q0, q1, q2, q3, q4, q5, q6, q7, q8, q9, below_cell h ((Cel.new w3 23 #[.int .i64 vN, .int .i64 vD]).cell 0 _ rfl), below_cell h ((Cel.new w3 23 #[.int .i64 vN, .int .i64 vD]).cell 1 _ rfl)⟩
  clear hb
  obtain ⟨g0, g1, g2, g3, g4, g5, g6, g7, g8, g9, g10, g11⟩ := HM3.out _ (Below.refl _ _)
  by_cases hx : xE = 0
  · by_cases hy : yE = 0
    · by_cases hv : vE = 0
      · subst hx hy hv
        obtain ⟨jx, qx⟩ := HX'.out rfl
        obtain ⟨jy, qy⟩ := HY'.out rfl
        obtain ⟨jv, qv⟩ := HV'.out rfl
        have K4 : Hid (∀ w', Below W.heap.size W w' → Calls Tryd.prog 63 #[.agg #[.int .i64 N, .int .i64 D], .agg #[.int .i64 xN, .int .i64 xD]] w' fun e w'' => e = .returned (rrV (fit (qB + qC))) ∧ Below w'.heap.size w' w'') := fun w' hb => by
          have := mul_ok _ _ _ _ w' (HZ.out w' hb) I1.out jx
          rw [qx] at this
          rw [← ASS.out]; exact this
        have K5 : Hid (∀ w', Below W.heap.size W w' → Calls Tryd.prog 39 #[.agg #[.int .i64 yN, .int .i64 yD], .agg #[.int .i64 vN, .int .i64 vD]] w' fun e w'' => e = .returned (rrV (fit (qB + qC))) ∧ Below w'.heap.size w' w'') := fun w' hb => by
          have := add_ok _ _ _ _ w' (HZ.out w' hb) jy jv
          rw [qy, qv] at this
          exact this
        clear jx qx jy qy jv qv
        generalize fit (qB + qC) = z at *
        obtain ⟨zN, zD, zE⟩ := z
        go_wp2_with fail
        go_fit (K4.out _ HB3.out)
        rintro e w4 ⟨rfl, hb⟩
        clear g0 g1 g2 g3 g4 g5 g6 g7 g8 g9 g10 g11
        have HB4 := Lib.hid (below_then HB3.out (hb.alloc hb.size (.cells #[.int .i64 zN, .int .i64 zD] 23)))
        have HM4 : Hid (∀ w', Below (w4.alloc (.cells #[.int .i64 zN, .int .i64 zD] 23)).heap.size (w4.alloc (.cells #[.int .i64 zN, .int .i64 zD] 23)) w' → w'.cell? ⟨w.heap.size, 0, none⟩ = some (.int .i64 N) ∧ w'.cell? ⟨w.heap.size, 1, none⟩ = some (.int .i64 D) ∧ w'.cell? ⟨w.heap.size + 1, 0, none⟩ = some (.int .i64 M) ∧ w'.cell? ⟨w.heap.size + 1, 1, none⟩ = some (.int .i64 E) ∧ w'.cell? ⟨w.heap.size + 1 + 1, 0, none⟩ = some (.int .i64 P) ∧ w'.cell? ⟨w.heap.size + 1 + 1, 1, none⟩ = some (.int .i64 G) ∧ w'.cell? ⟨w1.heap.size, 0, none⟩ = some (.int .i64 xN) ∧ w'.cell? ⟨w1.heap.size, 1, none⟩ = some (.int .i64 xD) ∧ w'.cell? ⟨w2.heap.size, 0, none⟩ = some (.int .i64 yN) ∧ w'.cell? ⟨w2.heap.size, 1, none⟩ = some (.int .i64 yD) ∧ w'.cell? ⟨w3.heap.size, 0, none⟩ = some (.int .i64 vN) ∧ w'.cell? ⟨w3.heap.size, 1, none⟩ = some (.int .i64 vD) ∧ w'.cell? ⟨w4.heap.size, 0, none⟩ = some (.int .i64 zN) ∧ w'.cell? ⟨w4.heap.size, 1, none⟩ = some (.int .i64 zD)) := fun w' h => by
          obtain ⟨q0, q1, q2, q3, q4, q5, q6, q7, q8, q9, q10, q11⟩ := HM3.out w' (below_then (hb.alloc hb.size (.cells #[.int .i64 zN, .int .i64 zD] 23)) h)
          exact ⟨q0, q1, q2, q3, q4, q5, q6, q7, q8, q9, q10, q11, below_cell h ((Cel.new w4 23 #[.int .i64 zN, .int .i64 zD]).cell 0 _ rfl), below_cell h ((Cel.new w4 23 #[.int .i64 zN, .int .i64 zD]).cell 1 _ rfl)⟩
        clear hb
        obtain ⟨g0, g1, g2, g3, g4, g5, g6, g7, g8, g9, g10, g11, g12, g13⟩ := HM4.out _ (Below.refl _ _)
        go_wp2_with fail
        go_fit (K5.out _ HB4.out)
        rintro e w5 ⟨rfl, hb⟩
        clear g0 g1 g2 g3 g4 g5 g6 g7 g8 g9 g10 g11 g12 g13
        have HB5 := Lib.hid (below_then HB4.out (hb.alloc hb.size (.cells #[.int .i64 zN, .int .i64 zD] 23)))
        have HM5 : Hid (∀ w', Below (w5.alloc (.cells #[.int .i64 zN, .int .i64 zD] 23)).heap.size (w5.alloc (.cells #[.int .i64 zN, .int .i64 zD] 23)) w' → w'.cell? ⟨w.heap.size, 0, none⟩ = some (.int .i64 N) ∧ w'.cell? ⟨w.heap.size, 1, none⟩ = some (.int .i64 D) ∧ w'.cell? ⟨w.heap.size + 1, 0, none⟩ = some (.int .i64 M) ∧ w'.cell? ⟨w.heap.size + 1, 1, none⟩ = some (.int .i64 E) ∧ w'.cell? ⟨w.heap.size + 1 + 1, 0, none⟩ = some (.int .i64 P) ∧ w'.cell? ⟨w.heap.size + 1 + 1, 1, none⟩ = some (.int .i64 G) ∧ w'.cell? ⟨w1.heap.size, 0, none⟩ = some (.int .i64 xN) ∧ w'.cell? ⟨w1.heap.size, 1, none⟩ = some (.int .i64 xD) ∧ w'.cell? ⟨w2.heap.size, 0, none⟩ = some (.int .i64 yN) ∧ w'.cell? ⟨w2.heap.size, 1, none⟩ = some (.int .i64 yD) ∧ w'.cell? ⟨w3.heap.size, 0, none⟩ = some (.int .i64 vN) ∧ w'.cell? ⟨w3.heap.size, 1, none⟩ = some (.int .i64 vD) ∧ w'.cell? ⟨w4.heap.size, 0, none⟩ = some (.int .i64 zN) ∧ w'.cell? ⟨w4.heap.size, 1, none⟩ = some (.int .i64 zD) ∧ w'.cell? ⟨w5.heap.size, 0, none⟩ = some (.int .i64 zN) ∧ w'.cell? ⟨w5.heap.size, 1, none⟩ = some (.int .i64 zD)) := fun w' h => by
          obtain ⟨q0, q1, q2, q3, q4, q5, q6, q7, q8, q9, q10, q11, q12, q13⟩ := HM4.out w' (below_then (hb.alloc hb.size (.cells #[.int .i64 zN, .int .i64 zD] 23)) h)
          exact ⟨q0, q1, q2, q3, q4, q5, q6, q7, q8, q9, q10, q11, q12, q13, below_cell h ((Cel.new w5 23 #[.int .i64 zN, .int .i64 zD]).cell 0 _ rfl), below_cell h ((Cel.new w5 23 #[.int .i64 zN, .int .i64 zD]).cell 1 _ rfl)⟩
        clear hb
        obtain ⟨g0, g1, g2, g3, g4, g5, g6, g7, g8, g9, g10, g11, g12, g13, g14, g15⟩ := HM5.out _ (Below.refl _ _)
        go_wp2
        go_ret
        exact ⟨rfl, below_then HW.out HB5.out⟩
      · subst hx hy
        have bv : (vE != 0) = true := by simpa using hv
        clear hv
        go_wp2
        go_ret
        exact ⟨rfl, below_then HW.out HB3.out⟩
    · subst hx
      have bv : (yE != 0) = true := by simpa using hy
      clear hy
      go_wp2
      go_ret
      exact ⟨rfl, below_then HW.out HB3.out⟩
  · have bv : (xE != 0) = true := by simpa using hx
    clear hx
    go_wp2
    go_ret
    exact ⟨rfl, below_then HW.out HB3.out⟩
end Go.Proofs.YtmibpncmebhbjaaDoor
