/- Walks of the package ledger: interest. Conditions: those stated. -/
import Derived.Test.YthpjeclhignciaaDoorT12
import Derived.Deep.RegionLaw
namespace Go.Proofs.YthpjeclhignciaaDoor
open Go Go.RowKit Go.Shelf
attribute [local go_sem] Oper.semAt_some rrV

/-- The interest of a loan for some days. -/
def intQ (PN PD RN RD s : Int) : Rat := prodQ [(PN, PD), (RN, RD), (s, 1), (1, 360)]
theorem isR_whole {s : Int} (h1 : 0 ≤ s) (h2 : s ≤ 1099511627776) : isR s 1 = true := by
  rw [isR_iff]
  refine ⟨by decide, by decide, by omega, h2, by simp⟩
theorem isR_360 : isR 1 360 = true := by decide +kernel
theorem slR2 (w : World) (a b c d : Int) (B : Nat) (hB : w.heap.size = B) : Sl (w.alloc (.cells #[.int .i64 a, .int .i64 b, .int .i64 c, .int .i64 d] 27)) 2 (.slice (some ⟨B, 0, none⟩) 2 2) (rsV [(a, b), (c, d)]) := by
  subst hB
  exact Sl.new (s := 2) w 27 2 2 #[.int .i64 a, .int .i64 b, .int .i64 c, .int .i64 d] rfl (by omega) (by omega)
theorem slR4 (w : World) (a b c d e f g h : Int) (B : Nat) (hB : w.heap.size = B) : Sl (w.alloc (.cells #[.int .i64 a, .int .i64 b, .int .i64 c, .int .i64 d, .int .i64 e, .int .i64 f, .int .i64 g, .int .i64 h] 27)) 2 (.slice (some ⟨B, 0, none⟩) 4 4) (rsV [(a, b), (c, d), (e, f), (g, h)]) := by
  subst hB
  exact Sl.new (s := 2) w 27 4 4 #[.int .i64 a, .int .i64 b, .int .i64 c, .int .i64 d, .int .i64 e, .int .i64 f, .int .i64 g, .int .i64 h] rfl (by omega) (by omega)

set_option maxRecDepth 100000 in
set_option maxHeartbeats 2000000 in
theorem Interest_any (PN PD RN RD s : Int) (w : World) (hz : Zw w) (hP : nnR (PN, PD) = true) (hR : nnR (RN, RD) = true) (h1 : 0 ≤ s) (h2 : s ≤ 1099511627776) :
    Calls Tryd.prog 9 #[.agg #[.int .i64 PN, .int .i64 PD], .agg #[.int .i64 RN, .int .i64 RD], .int .i64 s] w fun e w' => e = .returned (rrV (fit (intQ PN PD RN RD s))) ∧ Below w.heap.size w w' := by
  have iP : isR PN PD = true := by simp only [nnR, Bool.and_eq_true] at hP; exact hP.1
  have iR : isR RN RD = true := by simp only [nnR, Bool.and_eq_true] at hR; exact hR.1
  have iS := isR_whole h1 h2
  have hb2 : BdL [(PN, PD), (RN, RD)] := fun r h => by
    have a := isR_bd iP
    have b := isR_bd iR
    simp at h
    rcases h with rfl | rfl <;> (unfold Bd; omega)
  have hb4 : BdL [(PN, PD), (RN, RD), (s, 1), (1, 360)] := fun r h => by
    have a := isR_bd iP
    have b := isR_bd iR
    simp at h
    rcases h with rfl | rfl | rfl | rfl <;> (unfold Bd; omega)
  have hE : prodE [(PN, PD), (RN, RD), (s, 1), (1, 360)] = fit (intQ PN PD RN RD s) := prodE_good (by simp) (by simp [isRsB, iP, iR, iS, isR_360])
  have hn2 : nnB [(PN, PD), (RN, RD)] = true := by simp [nnB, hP, hR]
  have hB0 : Below w.heap.size w (((w.alloc (.cells #[.int .i64 PN, .int .i64 PD] 27)).alloc (.cells #[.int .i64 RN, .int .i64 RD] 27)).alloc (.cells #[.int .i64 0, .int .i64 0] 27)) := ((below_alloc' _ _).alloc (by simp) _).alloc (by simp; omega) _
  have hB1 := hB0.alloc hB0.size (.cells #[.int .i64 PN, .int .i64 PD, .int .i64 RN, .int .i64 RD] 27)
  have Y0 := (((Cel.new w 27 #[.int .i64 PN, .int .i64 PD]).alloc (.cells #[.int .i64 RN, .int .i64 RD] 27)).alloc (.cells #[.int .i64 0, .int .i64 0] 27)).alloc (.cells #[.int .i64 PN, .int .i64 PD, .int .i64 RN, .int .i64 RD] 27)
  have Y1 := ((Cel.new (w.alloc (.cells #[.int .i64 PN, .int .i64 PD] 27)) 27 #[.int .i64 RN, .int .i64 RD]).alloc (.cells #[.int .i64 0, .int .i64 0] 27)).alloc (.cells #[.int .i64 PN, .int .i64 PD, .int .i64 RN, .int .i64 RD] 27)
  have Y2 := (Cel.new ((w.alloc (.cells #[.int .i64 PN, .int .i64 PD] 27)).alloc (.cells #[.int .i64 RN, .int .i64 RD] 27)) 27 #[.int .i64 0, .int .i64 0]).alloc (.cells #[.int .i64 PN, .int .i64 PD, .int .i64 RN, .int .i64 RD] 27)
  simp only [World.size_alloc] at Y1 Y2
  have hk := notNegative_any _ [(PN, PD), (RN, RD)] _ (slR2 (((w.alloc (.cells #[.int .i64 PN, .int .i64 PD] 27)).alloc (.cells #[.int .i64 RN, .int .i64 RD] 27)).alloc (.cells #[.int .i64 0, .int .i64 0] 27)) PN PD RN RD (w.heap.size + 1 + 1 + 1) (by simp)) hb2
  rw [hn2] at hk
  have HK := Lib.hid hk
  have HE := Lib.hid hE
  have HB4 := Lib.hid hb4
  have HZ := Lib.hid hz
  have d1 : decide (s < 0) = false := decide_eq_false (by omega)
  have d2 : decide (1099511627776 < s) = false := decide_eq_false (by omega)
  clear hk hE hb4 hb2 hn2 iP iR iS hP hR hz
  go_enter Tryd.func9, Tryd.ntmps9
  go_wp2_with (go_at_call 18; refine HK.out.mono ?_; rintro e V ⟨rfl, hb⟩)
  have T0 := Y0.below Y0.lt hb
  have T1 := Y1.below Y1.lt hb
  have T2 := Y2.below Y2.lt hb
  have hBV := below_then hB1 hb
  clear Y0 Y1 Y2 hB0 hB1 hb HK
  have hVs : w.heap.size + 1 + 1 ≤ V.heap.size := by have := T2.lt; omega
  have HX : Hid (∀ w', Below (w.heap.size + 1 + 1) V w' → w'.cell? ⟨w.heap.size, 0, none⟩ = some (.int .i64 PN) ∧ w'.cell? ⟨w.heap.size, 1, none⟩ = some (.int .i64 PD) ∧ w'.cell? ⟨w.heap.size + 1, 0, none⟩ = some (.int .i64 RN) ∧ w'.cell? ⟨w.heap.size + 1, 1, none⟩ = some (.int .i64 RD)) := fun w' hb => by
    have h1 := T0.below (by omega) hb
    have h2 := T1.below (by omega) hb
    exact ⟨h1.cell 0 _ rfl, h1.cell 1 _ rfl, h2.cell 0 _ rfl, h2.cell 1 _ rfl⟩
  refine wp_region_held_drew (S := fun w' => Below (w.heap.size + 1 + 1) V w') (by kernel_rfl) (below_drew (Below.refl _ _)) (fun hHeld => ?_)
  refine wpAnyH_takeD (i := 0) (v := ?_) 21 rfl (by kernel_rfl) (by kernel_rfl) (by kernel_rfl) (fun _ _ _ h => h) (Or.inl ⟨by rfl, ?_⟩) (by assumption) rfl ?_
  rotate_left
  · intro w' hSw
    obtain ⟨c0, c1, c2, c3⟩ := HX.out w' hSw
    go_simp <;> with_reducible rfl
  simp only [List.setIfInBounds_toArray, List.set_cons_succ, List.set_cons_zero]
  refine wpAnyH_takeD (i := 1) (v := ?_) 22 rfl (by kernel_rfl) (by kernel_rfl) (by kernel_rfl) (fun _ _ _ h => h) (Or.inl ⟨by rfl, ?_⟩) (by assumption) rfl ?_
  rotate_left
  · intro w' hSw
    obtain ⟨c0, c1, c2, c3⟩ := HX.out w' hSw
    go_simp <;> with_reducible rfl
  simp only [List.setIfInBounds_toArray, List.set_cons_succ, List.set_cons_zero]
  refine wpAnyH_takeD (i := 2) (v := ?_) 23 rfl (by kernel_rfl) (by kernel_rfl) (by kernel_rfl) (fun _ _ _ h => h) (Or.inl ⟨by rfl, ?_⟩) (by assumption) rfl ?_
  rotate_left
  · intro w' hSw
    obtain ⟨c0, c1, c2, c3⟩ := HX.out w' hSw
    go_simp <;> with_reducible rfl
  simp only [List.setIfInBounds_toArray, List.set_cons_succ, List.set_cons_zero]
  refine wpAnyH_takeD (i := 4) (v := ?_) 25 rfl (by kernel_rfl) (by kernel_rfl) (by kernel_rfl) (fun _ _ _ h => h) (Or.inl ⟨by rfl, ?_⟩) (by assumption) rfl ?_
  rotate_left
  · intro w' hSw
    obtain ⟨c0, c1, c2, c3⟩ := HX.out w' hSw
    go_simp <;> with_reducible rfl
  simp only [List.setIfInBounds_toArray, List.set_cons_succ, List.set_cons_zero]
  refine wpAnyH_ready (rs := [3]) (by kernel_rfl) (by simp) ?_
  refine AllReadyH.cons (o := _) rfl (fun K hK => ?_) AllReadyH.nil
  go_simp
  go_at_call 20
  refine (whole_any s _).mono ?_
  rintro e w1 ⟨rfl, hb1⟩
  have HB1 := Lib.hid (show Below V.heap.size V w1 from below_undrew hb1)
  clear hb1
  refine hK.out _ _ (HB1.out.mono hVs) (fun hHeld1 => ?_)
  clear hK K
  refine wpAnyH_ready (rs := [5]) (by kernel_rfl) (by simp) ?_
  refine AllReadyH.cons (o := _) rfl (fun K hK => ?_) AllReadyH.nil
  go_simp
  have HA1 := Lib.hid (HB1.out.alloc HB1.out.size (.cells #[.int .i64 PN, .int .i64 PD, .int .i64 RN, .int .i64 RD, .int .i64 s, .int .i64 1, .int .i64 1, .int .i64 360] 27))
  refine hK.out _ _ (HA1.out.mono hVs) (fun hHeld2 => ?_)
  clear hK K
  refine wpAnyH_ready (rs := [6]) (by kernel_rfl) (by simp) ?_
  refine AllReadyH.cons (o := _) rfl (fun K hK => ?_) AllReadyH.nil
  go_simp
  go_at_call 19
  refine (mProduct_any _ _ _ (HZ.out.below (hBV.trans (HA1.out.mono hBV.size))) (slR4 w1 PN PD RN RD s 1 1 360 w1.heap.size rfl) HB4.out).mono ?_
  rintro e w2 ⟨rfl, hb2⟩
  have HB2 := Lib.hid (show Below V.heap.size V w2 from HA1.out.trans (hb2.mono HA1.out.size))
  clear hb2
  rw [HE.out]
  have T2' := T2.below T2.lt HB2.out
  have f0 := T2'.frozen 0
  have f1 := T2'.frozen 1
  have q0 := T2'.cell 0 _ rfl
  have q1 := T2'.cell 1 _ rfl
  refine hK.out _ _ (HB2.out.mono hVs) (fun hHeld3 => ?_)
  clear hK K
  refine wpAnyH_takeD (i := 7) (v := ?_) 28 rfl (by kernel_rfl) (by kernel_rfl) (by kernel_rfl) (fun _ _ _ h => h) (Or.inl ⟨by rfl, ?_⟩) (by assumption) rfl ?_
  rotate_left
  · intro w' hSw
    obtain ⟨c0, c1, c2, c3⟩ := HX.out w' hSw
    go_simp <;> with_reducible rfl
  simp only [List.setIfInBounds_toArray, List.set_cons_succ, List.set_cons_zero]
  refine wpAnyH_takeD (i := 8) (v := ?_) 29 rfl (by kernel_rfl) (by kernel_rfl) (by kernel_rfl) (fun _ _ _ h => h) (Or.inl ⟨by rfl, ?_⟩) (by assumption) rfl ?_
  rotate_left
  · intro w' hSw
    obtain ⟨c0, c1, c2, c3⟩ := HX.out w' hSw
    go_simp <;> with_reducible rfl
  simp only [List.setIfInBounds_toArray, List.set_cons_succ, List.set_cons_zero]
  refine wpAnyH_ready (rs := [9]) (by kernel_rfl) (by simp) ?_
  refine AllReadyH.cons (o := _) rfl (fun K hK => ?_) AllReadyH.nil
  go_simp
  refine hK.out _ _ (((HB2.out.mono hVs).setCell (p := ⟨w.heap.size + 1 + 1, 0, none⟩) (by simp) _).setCell (p := ⟨w.heap.size + 1 + 1, 1, none⟩) (by simp) _) (fun hHeld4 => ?_)
  clear hK K
  refine wpAnyH_takeD (i := 10) (v := ?_) 7 rfl (by kernel_rfl) (by kernel_rfl) (by kernel_rfl) (fun _ _ _ h => h) (Or.inl ⟨by rfl, ?_⟩) (by assumption) rfl ?_
  rotate_left
  · intro w' hSw
    obtain ⟨c0, c1, c2, c3⟩ := HX.out w' hSw
    go_simp <;> with_reducible rfl
  simp only [List.setIfInBounds_toArray, List.set_cons_succ, List.set_cons_zero]
  refine wpAnyH_done (by kernel_rfl) ?_ _
  have hB2 := hBV.trans (HB2.out.mono hBV.size)
  have U2 := (T2'.setAt 0 (.int .i64 (fit (intQ PN PD RN RD s)).n)).setAt 1 (.int .i64 (fit (intQ PN PD RN RD s)).d)
  have r0 := U2.cell 0 _ rfl
  have r1 := U2.cell 1 _ rfl
  go_wp2
  exact bodyPost_ret (v := rrV (fit (intQ PN PD RN RD s))) (by simp [results, Tryd.results9, go_sem, r0, r1]) rfl ⟨rfl, (hB2.setCell (p := ⟨w.heap.size + 1 + 1, 0, none⟩) (by simp; omega) _).setCell (p := ⟨w.heap.size + 1 + 1, 1, none⟩) (by simp; omega) _⟩
end Go.Proofs.YthpjeclhignciaaDoor
