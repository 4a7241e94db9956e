/- MetroRatioSums: the walk. -/
import Derived.Test.YtmibpncmebhbjaaDoorP10
import Derived.Test.YtmibpncmebhbjaaDoorFrac8
namespace Go.Proofs.YtmibpncmebhbjaaDoor
open Go Go.RowKit Go.Shelf
attribute [local go_sem] Oper.semAt_some rrV

set_option maxRecDepth 100000 in
set_option maxHeartbeats 4000000 in
theorem ratioSums_any (N D M E : Int) (w : World) (hz : Zw w) (hN : Bd N) (hD : Bd D) (hM : Bd M) (hE : Bd E) :
    Calls Tryd.prog 19 #[.agg #[.int .i64 N, .int .i64 D], .agg #[.int .i64 M, .int .i64 E]] w fun e w' => e = .returned (.bool true) ∧ Below w.heap.size w w' := by
  have Kp := Lib.hid (fun w' (hb : Below w.heap.size w w') => add_any N D M E w' (hz.below hb) hN hD hM hE)
  have Rp := Lib.hid (fun w' => radd_any N D M E w' hN hD hM hE)
  have Kq := Lib.hid (fun w' (hb : Below w.heap.size w w') => sub_any N D M E w' (hz.below hb) hN hD hM hE)
  have Rq := Lib.hid (fun w' => rsub_any N D M E w' hN hD hM hE)
  have Kr := Lib.hid (fun w' (hb : Below w.heap.size w w') => mul_any N D M E w' (hz.below hb) hN hD hM hE)
  have Rr := Lib.hid (fun w' => rmul_any N D M E w' hN hD hM hE)
  have Ks := Lib.hid (fun w' (hb : Below w.heap.size w w') => div_any N D M E w' (hz.below hb) hN hD hM hE)
  have Rs := Lib.hid (fun w' => rdiv_any N D M E w' hN hD hM hE)
  have Kc := Lib.hid (fun w' => cmp_any N D M E w' hN hD hM hE)
  have Rc := Lib.hid (fun w' => rcmp_any N D M E w' hN hD hM hE)
  have C9 := Lib.hid (fun w' (hb : Below w.heap.size w w') => works_any w' (hz.below hb))
  generalize opF N D M E (fit (rat N D + rat M E)) = p at *
  obtain ⟨pN, pD, pE⟩ := p
  generalize opF N D M E (fit (rat N D - rat M E)) = q at *
  obtain ⟨qN, qD, qE⟩ := q
  generalize opF N D M E (mulR N D M E) = r at *
  obtain ⟨rN, rD, rE⟩ := r
  generalize opF N D M E (divR N D M E) = s at *
  obtain ⟨sN, sD, sE⟩ := s
  generalize cmpV N D M E = cV at *
  generalize cmpE N D M E = cE at *
  clear hz hN hD hM hE
  have Y0 := (Cel.new w 23 #[.int .i64 N, .int .i64 D]).alloc (.cells #[.int .i64 M, .int .i64 E] 23)
  have Y1 := Cel.at (w.alloc (.cells #[.int .i64 N, .int .i64 D] 23)) (w.heap.size + 1) 23 #[.int .i64 M, .int .i64 E] (by simp)
  have hw0 : Below w.heap.size w ((w.alloc (.cells #[.int .i64 N, .int .i64 D] 23)).alloc (.cells #[.int .i64 M, .int .i64 E] 23)) := (below_alloc' _ _).alloc (by simp) _
  obtain ⟨V, hV⟩ : ∃ V, (w.alloc (.cells #[.int .i64 N, .int .i64 D] 23)).alloc (.cells #[.int .i64 M, .int .i64 E] 23) = V := ⟨_, rfl⟩
  rw [hV] at Y0 Y1 hw0
  have HA := Lib.hid Y0
  have HB := Lib.hid Y1
  have HW := Lib.hid hw0
  have a0 := HA.out.cell 0 (.int .i64 N) rfl
  have a1 := HA.out.cell 1 (.int .i64 D) rfl
  have b0 := HB.out.cell 0 (.int .i64 M) rfl
  have b1 := HB.out.cell 1 (.int .i64 E) rfl
  clear Y0 Y1 hw0
  go_enter Tryd.func19, Tryd.ntmps19
  go_wp2_with fail
  clear hV
  go_fit (Kp.out _ HW.out)
  rintro e u1 ⟨rfl, hb⟩
  clear a0 a1 b0 b1
  have HAn := Lib.hid ((HA.out.below HA.out.lt hb).alloc (.cells #[.int .i64 pN, .int .i64 pD] 23))
  have HBn := Lib.hid ((HB.out.below HB.out.lt hb).alloc (.cells #[.int .i64 pN, .int .i64 pD] 23))
  have HXn := Lib.hid (Cel.new u1 23 #[.int .i64 pN, .int .i64 pD])
  have HWn := Lib.hid (below_then HW.out (hb.alloc hb.size (.cells #[.int .i64 pN, .int .i64 pD] 23)))
  have n1 : ¬ u1.heap.size = w.heap.size := by have := HA.out.lt; have := hb.size; omega
  have n2 : ¬ u1.heap.size = w.heap.size + 1 := by have := HB.out.lt; have := hb.size; omega
  go_upto_region 2 with fail
  obtain ⟨X, hX⟩ : ∃ X, u1.heap.size = X := ⟨_, rfl⟩
  obtain ⟨V1, hV⟩ : ∃ V1, u1.alloc (.cells #[.int .i64 pN, .int .i64 pD] 23) = V1 := ⟨_, rfl⟩
  rw [hV] at HAn HBn HXn HWn ⊢
  rw [hX] at HXn n1 n2 ⊢
  have hX0 : w.heap.size ≤ X := by have := HW.out.size; have := hb.size; omega
  clear hX
  clear hV hb HA HB HW
  have HA := HAn
  clear HAn
  have HB := HBn
  clear HBn
  have HX := HXn
  clear HXn
  have HW := HWn
  clear HWn
  have a0 := HA.out.cell 0 (.int .i64 N) rfl
  have a1 := HA.out.cell 1 (.int .i64 D) rfl
  have b0 := HB.out.cell 0 (.int .i64 M) rfl
  have b1 := HB.out.cell 1 (.int .i64 E) rfl
  go_wp2_with fail
  go_fit (Rp.out _)
  rintro e u2 ⟨rfl, hb⟩
  clear a0 a1 b0 b1
  have HAn := Lib.hid ((HA.out.below HA.out.lt hb).alloc (.cells #[.int .i64 pN, .int .i64 pD] 23))
  have HBn := Lib.hid ((HB.out.below HB.out.lt hb).alloc (.cells #[.int .i64 pN, .int .i64 pD] 23))
  have HXn := Lib.hid ((HX.out.below HX.out.lt hb).alloc (.cells #[.int .i64 pN, .int .i64 pD] 23))
  have HYn := Lib.hid (Cel.new u2 23 #[.int .i64 pN, .int .i64 pD])
  have HWn := Lib.hid (below_then HW.out (hb.alloc hb.size (.cells #[.int .i64 pN, .int .i64 pD] 23)))
  have n5 : ¬ u2.heap.size = w.heap.size := by have := HA.out.lt; have := hb.size; omega
  have n6 : ¬ u2.heap.size = w.heap.size + 1 := by have := HB.out.lt; have := hb.size; omega
  have n9 : ¬ u2.heap.size = X := by have := HX.out.lt; have := hb.size; omega
  go_upto_region 3 with fail
  obtain ⟨Y, hY⟩ : ∃ Y, u2.heap.size = Y := ⟨_, rfl⟩
  obtain ⟨V2, hV⟩ : ∃ V2, u2.alloc (.cells #[.int .i64 pN, .int .i64 pD] 23) = V2 := ⟨_, rfl⟩
  rw [hV] at HAn HBn HXn HYn HWn ⊢
  rw [hY] at HYn n5 n6 n9 ⊢
  have hY0 : w.heap.size ≤ Y := by have := HW.out.size; have := hb.size; omega
  have n10 : ¬ X = Y := fun e => n9 e.symm
  clear hY
  clear hV hb HA HB HW HX
  have HA := HAn
  clear HAn
  have HB := HBn
  clear HBn
  have HX := HXn
  clear HXn
  have HY := HYn
  clear HYn
  have HW := HWn
  clear HWn
  have a0 := HA.out.cell 0 (.int .i64 N) rfl
  have a1 := HA.out.cell 1 (.int .i64 D) rfl
  have b0 := HB.out.cell 0 (.int .i64 M) rfl
  have b1 := HB.out.cell 1 (.int .i64 E) rfl
  have x0 := HX.out.cell 0 (.int .i64 pN) rfl
  have x1 := HX.out.cell 1 (.int .i64 pD) rfl
  have v0 := HY.out.cell 0 (.int .i64 pN) rfl
  have v1 := HY.out.cell 1 (.int .i64 pD) rfl
  go_wp2_with fail
  clear x0 x1 v0 v1
  go_fit (Kq.out _ HW.out)
  rintro e u3 ⟨rfl, hb⟩
  clear a0 a1 b0 b1
  have HAb := Lib.hid (HA.out.below HA.out.lt hb)
  have HBb := Lib.hid (HB.out.below HB.out.lt hb)
  have HXb := Lib.hid (HX.out.below HX.out.lt hb)
  have HYb := Lib.hid (HY.out.below HY.out.lt hb)
  have z0 := HXb.out.cell 0 (.int .i64 pN) rfl
  have z1 := HXb.out.cell 1 (.int .i64 pD) rfl
  have y0 := HXb.out.frozen 0
  have y1 := HXb.out.frozen 1
  have HAn := Lib.hid ((HAb.out.other (p := ⟨X, 0, none⟩) n1 (.int .i64 qN)).other (p := ⟨X, 1, none⟩) n1 (.int .i64 qD))
  have HBn := Lib.hid ((HBb.out.other (p := ⟨X, 0, none⟩) n2 (.int .i64 qN)).other (p := ⟨X, 1, none⟩) n2 (.int .i64 qD))
  have HXn := Lib.hid (HXb.out.set2 (.int .i64 qN) (.int .i64 qD))
  have HYn := Lib.hid ((HYb.out.other (p := ⟨X, 0, none⟩) n10 (.int .i64 qN)).other (p := ⟨X, 1, none⟩) n10 (.int .i64 qD))
  have HWn := Lib.hid (((below_then HW.out hb).setCell (p := ⟨X, 0, none⟩) hX0 (.int .i64 qN)).setCell (p := ⟨X, 1, none⟩) hX0 (.int .i64 qD))
  go_upto_region 5 with fail
  obtain ⟨V3, hV⟩ : ∃ V3, (u3.setCell ⟨X, 0, none⟩ (.int .i64 qN)).setCell ⟨X, 1, none⟩ (.int .i64 qD) = V3 := ⟨_, rfl⟩
  rw [hV] at HAn HBn HXn HYn HWn ⊢
  clear hV hb HA HB HW HX HY z0 z1 y0 y1 HAb HBb HXb HYb
  have HA := HAn
  clear HAn
  have HB := HBn
  clear HBn
  have HX := HXn
  clear HXn
  have HY := HYn
  clear HYn
  have HW := HWn
  clear HWn
  have a0 := HA.out.cell 0 (.int .i64 N) rfl
  have a1 := HA.out.cell 1 (.int .i64 D) rfl
  have b0 := HB.out.cell 0 (.int .i64 M) rfl
  have b1 := HB.out.cell 1 (.int .i64 E) rfl
  go_wp2_with fail
  go_fit (Rq.out _)
  rintro e u4 ⟨rfl, hb⟩
  clear a0 a1 b0 b1
  have HAb := Lib.hid (HA.out.below HA.out.lt hb)
  have HBb := Lib.hid (HB.out.below HB.out.lt hb)
  have HXb := Lib.hid (HX.out.below HX.out.lt hb)
  have HYb := Lib.hid (HY.out.below HY.out.lt hb)
  have z0 := HYb.out.cell 0 (.int .i64 pN) rfl
  have z1 := HYb.out.cell 1 (.int .i64 pD) rfl
  have y0 := HYb.out.frozen 0
  have y1 := HYb.out.frozen 1
  have HAn := Lib.hid ((HAb.out.other (p := ⟨Y, 0, none⟩) n5 (.int .i64 qN)).other (p := ⟨Y, 1, none⟩) n5 (.int .i64 qD))
  have HBn := Lib.hid ((HBb.out.other (p := ⟨Y, 0, none⟩) n6 (.int .i64 qN)).other (p := ⟨Y, 1, none⟩) n6 (.int .i64 qD))
  have HYn := Lib.hid (HYb.out.set2 (.int .i64 qN) (.int .i64 qD))
  have HXn := Lib.hid ((HXb.out.other (p := ⟨Y, 0, none⟩) n9 (.int .i64 qN)).other (p := ⟨Y, 1, none⟩) n9 (.int .i64 qD))
  have HWn := Lib.hid (((below_then HW.out hb).setCell (p := ⟨Y, 0, none⟩) hY0 (.int .i64 qN)).setCell (p := ⟨Y, 1, none⟩) hY0 (.int .i64 qD))
  go_upto_region 6 with fail
  obtain ⟨V4, hV⟩ : ∃ V4, (u4.setCell ⟨Y, 0, none⟩ (.int .i64 qN)).setCell ⟨Y, 1, none⟩ (.int .i64 qD) = V4 := ⟨_, rfl⟩
  rw [hV] at HAn HBn HXn HYn HWn ⊢
  clear hV hb HA HB HW HX HY z0 z1 y0 y1 HAb HBb HXb HYb
  have HA := HAn
  clear HAn
  have HB := HBn
  clear HBn
  have HX := HXn
  clear HXn
  have HY := HYn
  clear HYn
  have HW := HWn
  clear HWn
  have a0 := HA.out.cell 0 (.int .i64 N) rfl
  have a1 := HA.out.cell 1 (.int .i64 D) rfl
  have b0 := HB.out.cell 0 (.int .i64 M) rfl
  have b1 := HB.out.cell 1 (.int .i64 E) rfl
  have x0 := HX.out.cell 0 (.int .i64 qN) rfl
  have x1 := HX.out.cell 1 (.int .i64 qD) rfl
  have v0 := HY.out.cell 0 (.int .i64 qN) rfl
  have v1 := HY.out.cell 1 (.int .i64 qD) rfl
  go_wp2_with fail
  clear x0 x1 v0 v1
  go_fit (Kr.out _ HW.out)
  rintro e u5 ⟨rfl, hb⟩
  clear a0 a1 b0 b1
  have HAb := Lib.hid (HA.out.below HA.out.lt hb)
  have HBb := Lib.hid (HB.out.below HB.out.lt hb)
  have HXb := Lib.hid (HX.out.below HX.out.lt hb)
  have HYb := Lib.hid (HY.out.below HY.out.lt hb)
  have z0 := HXb.out.cell 0 (.int .i64 qN) rfl
  have z1 := HXb.out.cell 1 (.int .i64 qD) rfl
  have y0 := HXb.out.frozen 0
  have y1 := HXb.out.frozen 1
  have HAn := Lib.hid ((HAb.out.other (p := ⟨X, 0, none⟩) n1 (.int .i64 rN)).other (p := ⟨X, 1, none⟩) n1 (.int .i64 rD))
  have HBn := Lib.hid ((HBb.out.other (p := ⟨X, 0, none⟩) n2 (.int .i64 rN)).other (p := ⟨X, 1, none⟩) n2 (.int .i64 rD))
  have HXn := Lib.hid (HXb.out.set2 (.int .i64 rN) (.int .i64 rD))
  have HYn := Lib.hid ((HYb.out.other (p := ⟨X, 0, none⟩) n10 (.int .i64 rN)).other (p := ⟨X, 1, none⟩) n10 (.int .i64 rD))
  have HWn := Lib.hid (((below_then HW.out hb).setCell (p := ⟨X, 0, none⟩) hX0 (.int .i64 rN)).setCell (p := ⟨X, 1, none⟩) hX0 (.int .i64 rD))
  go_upto_region 8 with fail
  obtain ⟨V5, hV⟩ : ∃ V5, (u5.setCell ⟨X, 0, none⟩ (.int .i64 rN)).setCell ⟨X, 1, none⟩ (.int .i64 rD) = V5 := ⟨_, rfl⟩
  rw [hV] at HAn HBn HXn HYn HWn ⊢
  clear hV hb HA HB HW HX HY z0 z1 y0 y1 HAb HBb HXb HYb
  have HA := HAn
  clear HAn
  have HB := HBn
  clear HBn
  have HX := HXn
  clear HXn
  have HY := HYn
  clear HYn
  have HW := HWn
  clear HWn
  have a0 := HA.out.cell 0 (.int .i64 N) rfl
  have a1 := HA.out.cell 1 (.int .i64 D) rfl
  have b0 := HB.out.cell 0 (.int .i64 M) rfl
  have b1 := HB.out.cell 1 (.int .i64 E) rfl
  go_wp2_with fail
  go_fit (Rr.out _)
  rintro e u6 ⟨rfl, hb⟩
  clear a0 a1 b0 b1
  have HAb := Lib.hid (HA.out.below HA.out.lt hb)
  have HBb := Lib.hid (HB.out.below HB.out.lt hb)
  have HXb := Lib.hid (HX.out.below HX.out.lt hb)
  have HYb := Lib.hid (HY.out.below HY.out.lt hb)
  have z0 := HYb.out.cell 0 (.int .i64 qN) rfl
  have z1 := HYb.out.cell 1 (.int .i64 qD) rfl
  have y0 := HYb.out.frozen 0
  have y1 := HYb.out.frozen 1
  have HAn := Lib.hid ((HAb.out.other (p := ⟨Y, 0, none⟩) n5 (.int .i64 rN)).other (p := ⟨Y, 1, none⟩) n5 (.int .i64 rD))
  have HBn := Lib.hid ((HBb.out.other (p := ⟨Y, 0, none⟩) n6 (.int .i64 rN)).other (p := ⟨Y, 1, none⟩) n6 (.int .i64 rD))
  have HYn := Lib.hid (HYb.out.set2 (.int .i64 rN) (.int .i64 rD))
  have HXn := Lib.hid ((HXb.out.other (p := ⟨Y, 0, none⟩) n9 (.int .i64 rN)).other (p := ⟨Y, 1, none⟩) n9 (.int .i64 rD))
  have HWn := Lib.hid (((below_then HW.out hb).setCell (p := ⟨Y, 0, none⟩) hY0 (.int .i64 rN)).setCell (p := ⟨Y, 1, none⟩) hY0 (.int .i64 rD))
  go_upto_region 9 with fail
  obtain ⟨V6, hV⟩ : ∃ V6, (u6.setCell ⟨Y, 0, none⟩ (.int .i64 rN)).setCell ⟨Y, 1, none⟩ (.int .i64 rD) = V6 := ⟨_, rfl⟩
  rw [hV] at HAn HBn HXn HYn HWn ⊢
  clear hV hb HA HB HW HX HY z0 z1 y0 y1 HAb HBb HXb HYb
  have HA := HAn
  clear HAn
  have HB := HBn
  clear HBn
  have HX := HXn
  clear HXn
  have HY := HYn
  clear HYn
  have HW := HWn
  clear HWn
  have a0 := HA.out.cell 0 (.int .i64 N) rfl
  have a1 := HA.out.cell 1 (.int .i64 D) rfl
  have b0 := HB.out.cell 0 (.int .i64 M) rfl
  have b1 := HB.out.cell 1 (.int .i64 E) rfl
  have x0 := HX.out.cell 0 (.int .i64 rN) rfl
  have x1 := HX.out.cell 1 (.int .i64 rD) rfl
  have v0 := HY.out.cell 0 (.int .i64 rN) rfl
  have v1 := HY.out.cell 1 (.int .i64 rD) rfl
  go_wp2_with fail
  clear x0 x1 v0 v1
  go_fit (Ks.out _ HW.out)
  rintro e u7 ⟨rfl, hb⟩
  clear a0 a1 b0 b1
  have HAb := Lib.hid (HA.out.below HA.out.lt hb)
  have HBb := Lib.hid (HB.out.below HB.out.lt hb)
  have HXb := Lib.hid (HX.out.below HX.out.lt hb)
  have HYb := Lib.hid (HY.out.below HY.out.lt hb)
  have z0 := HXb.out.cell 0 (.int .i64 rN) rfl
  have z1 := HXb.out.cell 1 (.int .i64 rD) rfl
  have y0 := HXb.out.frozen 0
  have y1 := HXb.out.frozen 1
  have HAn := Lib.hid ((HAb.out.other (p := ⟨X, 0, none⟩) n1 (.int .i64 sN)).other (p := ⟨X, 1, none⟩) n1 (.int .i64 sD))
  have HBn := Lib.hid ((HBb.out.other (p := ⟨X, 0, none⟩) n2 (.int .i64 sN)).other (p := ⟨X, 1, none⟩) n2 (.int .i64 sD))
  have HXn := Lib.hid (HXb.out.set2 (.int .i64 sN) (.int .i64 sD))
  have HYn := Lib.hid ((HYb.out.other (p := ⟨X, 0, none⟩) n10 (.int .i64 sN)).other (p := ⟨X, 1, none⟩) n10 (.int .i64 sD))
  have HWn := Lib.hid (((below_then HW.out hb).setCell (p := ⟨X, 0, none⟩) hX0 (.int .i64 sN)).setCell (p := ⟨X, 1, none⟩) hX0 (.int .i64 sD))
  go_upto_region 11 with fail
  obtain ⟨V7, hV⟩ : ∃ V7, (u7.setCell ⟨X, 0, none⟩ (.int .i64 sN)).setCell ⟨X, 1, none⟩ (.int .i64 sD) = V7 := ⟨_, rfl⟩
  rw [hV] at HAn HBn HXn HYn HWn ⊢
  clear hV hb HA HB HW HX HY z0 z1 y0 y1 HAb HBb HXb HYb
  have HA := HAn
  clear HAn
  have HB := HBn
  clear HBn
  have HX := HXn
  clear HXn
  have HY := HYn
  clear HYn
  have HW := HWn
  clear HWn
  have a0 := HA.out.cell 0 (.int .i64 N) rfl
  have a1 := HA.out.cell 1 (.int .i64 D) rfl
  have b0 := HB.out.cell 0 (.int .i64 M) rfl
  have b1 := HB.out.cell 1 (.int .i64 E) rfl
  go_wp2_with fail
  go_fit (Rs.out _)
  rintro e u8 ⟨rfl, hb⟩
  clear a0 a1 b0 b1
  have HAb := Lib.hid (HA.out.below HA.out.lt hb)
  have HBb := Lib.hid (HB.out.below HB.out.lt hb)
  have HXb := Lib.hid (HX.out.below HX.out.lt hb)
  have HYb := Lib.hid (HY.out.below HY.out.lt hb)
  have z0 := HYb.out.cell 0 (.int .i64 rN) rfl
  have z1 := HYb.out.cell 1 (.int .i64 rD) rfl
  have y0 := HYb.out.frozen 0
  have y1 := HYb.out.frozen 1
  have HAn := Lib.hid ((HAb.out.other (p := ⟨Y, 0, none⟩) n5 (.int .i64 sN)).other (p := ⟨Y, 1, none⟩) n5 (.int .i64 sD))
  have HBn := Lib.hid ((HBb.out.other (p := ⟨Y, 0, none⟩) n6 (.int .i64 sN)).other (p := ⟨Y, 1, none⟩) n6 (.int .i64 sD))
  have HYn := Lib.hid (HYb.out.set2 (.int .i64 sN) (.int .i64 sD))
  have HXn := Lib.hid ((HXb.out.other (p := ⟨Y, 0, none⟩) n9 (.int .i64 sN)).other (p := ⟨Y, 1, none⟩) n9 (.int .i64 sD))
  have HWn := Lib.hid (((below_then HW.out hb).setCell (p := ⟨Y, 0, none⟩) hY0 (.int .i64 sN)).setCell (p := ⟨Y, 1, none⟩) hY0 (.int .i64 sD))
  go_upto_region 12 with fail
  obtain ⟨V8, hV⟩ : ∃ V8, (u8.setCell ⟨Y, 0, none⟩ (.int .i64 sN)).setCell ⟨Y, 1, none⟩ (.int .i64 sD) = V8 := ⟨_, rfl⟩
  rw [hV] at HAn HBn HXn HYn HWn ⊢
  clear hV hb HA HB HW HX HY z0 z1 y0 y1 HAb HBb HXb HYb
  have HA := HAn
  clear HAn
  have HB := HBn
  clear HBn
  have HX := HXn
  clear HXn
  have HY := HYn
  clear HYn
  have HW := HWn
  clear HWn
  have a0 := HA.out.cell 0 (.int .i64 N) rfl
  have a1 := HA.out.cell 1 (.int .i64 D) rfl
  have b0 := HB.out.cell 0 (.int .i64 M) rfl
  have b1 := HB.out.cell 1 (.int .i64 E) rfl
  have x0 := HX.out.cell 0 (.int .i64 sN) rfl
  have x1 := HX.out.cell 1 (.int .i64 sD) rfl
  have v0 := HY.out.cell 0 (.int .i64 sN) rfl
  have v1 := HY.out.cell 1 (.int .i64 sD) rfl
  go_wp2_with fail
  clear x0 x1 v0 v1
  go_fit (Kc.out _)
  rintro e c1 ⟨rfl, hb⟩
  clear a0 a1 b0 b1
  have HAb := Lib.hid (HA.out.below HA.out.lt hb)
  have HBb := Lib.hid (HB.out.below HB.out.lt hb)
  have HWb := Lib.hid (below_then HW.out hb)
  clear hb HA HB HW
  have a0 := HAb.out.cell 0 (.int .i64 N) rfl
  have a1 := HAb.out.cell 1 (.int .i64 D) rfl
  have b0 := HBb.out.cell 0 (.int .i64 M) rfl
  have b1 := HBb.out.cell 1 (.int .i64 E) rfl
  go_wp2_with fail
  go_fit (Rc.out _)
  rintro e c2 ⟨rfl, hb⟩
  have HWc := Lib.hid (below_then HWb.out hb)
  clear hb a0 a1 b0 b1
  go_wp2_with fail
  go_fit (C9.out _ HWc.out)
  rintro e c3 ⟨rfl, hb⟩
  go_wp2
  go_ret
  exact ⟨rfl, below_then HWc.out hb⟩
end Go.Proofs.YtmibpncmebhbjaaDoor
