/- Fractions of the reference: times and over. -/
import Derived.Test.YtmibpncmebhbjaaDoorFrac1
import Derived.Test.YtmibpncmebhbjaaDoorMul2
namespace Go.Proofs.YtmibpncmebhbjaaDoor
open Go Go.RowKit Go.Shelf
attribute [local go_sem] Oper.semAt_some

theorem rsizeN (n : Int) (w : World) (h : Bd n) : Calls Tryd.prog 89 #[.int .i64 n] w fun e w' => e = .returned (.int .u64 (n.natAbs : Int)) ∧ w = w' := rsize_any n w h.1 h.2

set_option maxRecDepth 100000 in
set_option maxHeartbeats 4000000 in
theorem ftimes_any (base Bf : Nat) (neg : Bool) (U D : List Nat) (N M : Int) (w : World) (h : FrO w base Bf neg U D) (hbase : base ≤ w.heap.size) (bN : Bd N) (bM : Bd M) (lU : U.length ≤ 1000000) (lD : D.length ≤ 1000000) :
    Calls Tryd.prog 116 #[.pointer (some ⟨Bf, 0, none⟩), .agg #[.int .i64 N, .int .i64 M]] w fun e w' => e = .returned (.tuple #[]) ∧ FrO w' base Bf (neg != decide (N < 0)) (U ++ [N.natAbs]) (D ++ [M.natAbs]) ∧ Below Bf w w' := by
  obtain ⟨sN, sD, hC, hlt, h1, h2, hdis⟩ := h
  obtain ⟨A3, c3, rfl, hc3, hm3, f3⟩ := own_slice h1
  obtain ⟨A4, c4, rfl, hc4, hm4, f4⟩ := own_slice h2
  have HE1 := Lib.hid (u64s_append U [N.natAbs])
  have HE2 := Lib.hid (u64s_append D [M.natAbs])
  have HL1 := Lib.hid (show (u64s U).length = U.length ∧ U.length ≤ 1000000 from ⟨u64s_length U, lU⟩)
  have HL2 := Lib.hid (show (u64s D).length = D.length ∧ D.length ≤ 1000000 from ⟨u64s_length D, lD⟩)
  have hBw := hC.lt
  obtain ⟨n3, hn3⟩ : ∃ n3, U.length = n3 := ⟨_, rfl⟩
  obtain ⟨n4, hn4⟩ : ∃ n4, D.length = n4 := ⟨_, rfl⟩
  obtain ⟨X3, hx3⟩ : ∃ X3, u64s U = X3 := ⟨_, rfl⟩
  obtain ⟨X4, hx4⟩ : ∃ X4, u64s D = X4 := ⟨_, rfl⟩
  rw [hn3, hx3] at h1
  rw [hn4, hx4] at h2
  rw [hn3] at hC hc3 HL1 f3 hdis
  rw [hn4] at hC hc4 HL2 f4 hdis
  rw [hx3] at HL1 HE1
  rw [hx4] at HL2 HE2
  have HN3 := Lib.hid hn3
  have HN4 := Lib.hid hn4
  clear hn3 hn4 hx3 hx4 lU lD f3 f4
  have HNU : Hid ((Value.slice A3 n3 c3).ownBlock ≠ some w.heap.size) := fun e => by have := own_lt h1 e; omega
  have HND : Hid ((Value.slice A4 n4 c4).ownBlock ≠ some w.heap.size) := fun e => by have := own_lt h2 e; omega
  have HU0 := Lib.hid (own_alloc (o := .cells #[.int .i64 N, .int .i64 M] 23) h1)
  have HD0 := Lib.hid (own_alloc (o := .cells #[.int .i64 N, .int .i64 M] 23) h2)
  have HX0 := Lib.hid (hC.alloc (.cells #[.int .i64 N, .int .i64 M] 23))
  have HY0 := Lib.hid (Cel.new w 23 #[.int .i64 N, .int .i64 M])
  have HB0 := Lib.hid ((Below.refl Bf w).alloc (by omega) (.cells #[.int .i64 N, .int .i64 M] 23))
  have HDis0 := Lib.hid hdis
  clear h1 h2 hC hdis
  go_enter Tryd.func116, Tryd.ntmps116
  go_upto_region 1 with fail
  obtain ⟨V, hV⟩ : ∃ V, w.alloc (.cells #[.int .i64 N, .int .i64 M] 23) = V := ⟨_, rfl⟩
  rw [hV] at HU0 HD0 HX0 HY0 HB0 ⊢
  have HVs := Lib.hid (show V.heap.size = w.heap.size + 1 by rw [← hV]; simp)
  clear hV
  have HU := HU0
  have HD := HD0
  have HX := HX0
  have HY := HY0
  have HB := HB0
  have HDis := HDis0
  have HN1 := HNU
  have HN2 := HND
  clear HU0 HD0 HX0 HY0 HB0 HDis0 HNU HND
  have r0 := HY.out.cell 0 (.int .i64 N) rfl
  have r1 := HY.out.cell 1 (.int .i64 M) rfl
  have hxl := HX.out.lt
  have hyl := HY.out.lt
  have cA := ((show Cel (World.drew V) _ _ _ from HX.out).alloc (.cells #[.int .u64 (N.natAbs : Int)] 117)).cell 1 _ rfl
  have q0 := HX.out.cell 1 _ rfl
  go_cut [] (fun wx => ∃ (Wx : World) (A1 : Option Addr) (c1 : Nat), Wx = wx ∧ Cel wx Bf 150 #[.bool neg, .slice A1 (n3 + 1) c1, .slice A4 n4 c4] ∧ wx.ownsRow base 117 1 (.slice A1 (n3 + 1) c1) (n3 + 1) (X3 ++ [.int .u64 (N.natAbs : Int)]) ∧ wx.ownsRow base 117 1 (.slice A4 n4 c4) n4 X4 ∧ (∀ g, (Value.slice A1 (n3 + 1) c1).ownBlock = some g → (Value.slice A4 n4 c4).ownBlock ≠ some g) ∧ (Value.slice A4 n4 c4).ownBlock ≠ some w.heap.size ∧ (Value.slice A1 (n3 + 1) c1).ownBlock ≠ some w.heap.size ∧ Cel wx w.heap.size 23 #[.int .i64 N, .int .i64 M] ∧ Below Bf w wx)
  case first =>
    go_region_law (first
      | (go_simp; go_at_call 89; refine (rsizeN N _ bN).mono ?_; rintro e w' ⟨rfl, rfl⟩)
      | (refine stepU64 (.tmp 8) (.tmp 12) rfl rfl (by rfl) (by rfl) (own_alloc (show World.ownsRow (World.drew _) _ _ _ _ _ _ from HU.out)) (Sl.new (s := 1) _ 117 1 1 #[.int .u64 (N.natAbs : Int)] rfl (Nat.le_refl _) (by decide)) (by simp [Value.oneCell']) (N := n3 + 1) (by simp) (by have := HL1.out; omega) (by have := HVs.out; simp; omega) ?_; intro A1 c1 w1 hap; have hA := own_alloc (o := .cells #[.int .u64 (N.natAbs : Int)] 117) (show World.ownsRow (World.drew V) _ _ _ _ _ _ from HU.out); have hO := own_keep (own_alloc (o := .cells #[.int .u64 (N.natAbs : Int)] 117) (show World.ownsRow (World.drew V) _ _ _ _ _ _ from HD.out)) hap.grown (fun g h1 h2 => HDis.out g h2 h1); have x1 := ((show Cel (World.drew V) _ _ _ from HX.out).alloc (.cells #[.int .u64 (N.natAbs : Int)] 117)).kept hap.grown (fun e => by have := own_ge hA e.symm; omega); have yr := ((show Cel (World.drew V) _ _ _ from HY.out).alloc (.cells #[.int .u64 (N.natAbs : Int)] 117)).kept hap.grown (fun e => by exact HN1.out e.symm); have hb1 := (show Below Bf w (World.drew V) from below_drew HB.out).alloc (by have := HB.out.size; have := HX.out.lt; simp; omega) (.cells #[.int .u64 (N.natAbs : Int)] 117) |>.grown hap.grown (by have := HX.out.lt; simp; omega) (fun g hg => by have := own_ge hA hg; omega); have g1 := x1.frozen 1; have j1 := x1.cell 1 _ rfl; have HOW := Lib.hid hap.own; have HOO := Lib.hid hO; have HBK := Lib.hid hap.block; have HX' := Lib.hid x1; have HY' := Lib.hid yr; have HB1 := Lib.hid hb1; clear hA hO hap x1 yr hb1))
    all_goals (
      go_wp2
      have hnb : (Value.slice A1 (n3 + 1) c1).ownBlock ≠ some w.heap.size := by
        rcases HBK.out with e | e
        · rw [e]; exact HN1.out
        · rw [e]; intro e'; injection e' with e'; have := HVs.out; simp at e'; omega
      have hds : ∀ g, (Value.slice A1 (n3 + 1) c1).ownBlock = some g → (Value.slice A4 n4 c4).ownBlock ≠ some g := by
        rcases HBK.out with e | e
        · rw [e]; exact HDis.out
        · rw [e]; intro g e' e''; injection e' with e'; subst e'; have := own_lt HD.out e''; simp at this; omega
      have hna : (Value.slice A1 (n3 + 1) c1).ownBlock ≠ some Bf := fun e => by have := own_ge HOW.out e; omega
      have hnd : (Value.slice A4 n4 c4).ownBlock ≠ some Bf := fun e => by have := own_ge HOO.out e; omega
      have hne : ¬ w.heap.size = Bf := by omega
      go_meet
      exact ⟨_, A1, c1, rfl, HX'.out.setAt 1 _, own_ne HOW.out (p := ⟨Bf, 1, none⟩) hna _, own_ne HOO.out (p := ⟨Bf, 1, none⟩) hnd _, hds, HN2.out, hnb, HY'.out.other (by simp; omega) _, HB1.out.setCell (p := ⟨Bf, 1, none⟩) (by simp) _⟩)
  case rest =>
    obtain ⟨V1, A1, c1, rfl, hX, hU, hD, hDis, hNd, hNu, hY, hB⟩ := hcut
    clear HX HY HU HD HB HDis HN1 HN2 hxl hyl cA q0 r0 r1
    have HX := Lib.hid hX
    have HY := Lib.hid hY
    have HU := Lib.hid hU
    have HD := Lib.hid hD
    have HB := Lib.hid hB
    have HDis := Lib.hid hDis
    have HN1 := Lib.hid hNu
    have HN2 := Lib.hid hNd
    have HVs1 := Lib.hid (show w.heap.size < V1.heap.size from hY.lt)
    clear HVs
    have HVs := HVs1
    clear HVs1
    have r0 := HY.out.cell 0 (.int .i64 N) rfl
    have r1 := HY.out.cell 1 (.int .i64 M) rfl
    have hxl := HX.out.lt
    have hyl := HY.out.lt
    clear hX hU hD hDis hNd hNu hY hB
    obtain ⟨k3, hk3⟩ : ∃ k3, n3 + 1 = k3 := ⟨_, rfl⟩
    obtain ⟨X5, hX5⟩ : ∃ X5, X3 ++ [Value.int .u64 (N.natAbs : Int)] = X5 := ⟨_, rfl⟩
    rw [hk3] at HX HU HDis HN1
    rw [hX5] at HU
    have HK3 := Lib.hid hk3
    have HX5 := Lib.hid hX5
    clear hk3 hX5
    go_upto_region 2 with fail
    have cA := ((show Cel (World.drew V1) _ _ _ from HX.out).alloc (.cells #[.int .u64 (M.natAbs : Int)] 117)).cell 2 _ rfl
    have q0 := HX.out.cell 2 _ rfl
    go_cut [] (fun wx => ∃ (Wx : World) (A2 : Option Addr) (c2 : Nat), Wx = wx ∧ Cel wx Bf 150 #[.bool neg, .slice A1 k3 c1, .slice A2 (n4 + 1) c2] ∧ wx.ownsRow base 117 1 (.slice A2 (n4 + 1) c2) (n4 + 1) (X4 ++ [.int .u64 (M.natAbs : Int)]) ∧ wx.ownsRow base 117 1 (.slice A1 k3 c1) k3 X5 ∧ (∀ g, (Value.slice A2 (n4 + 1) c2).ownBlock = some g → (Value.slice A1 k3 c1).ownBlock ≠ some g) ∧ (Value.slice A1 k3 c1).ownBlock ≠ some w.heap.size ∧ (Value.slice A2 (n4 + 1) c2).ownBlock ≠ some w.heap.size ∧ Cel wx w.heap.size 23 #[.int .i64 N, .int .i64 M] ∧ Below Bf w wx)
    case first =>
      go_region_law (first
        | (go_simp; go_at_call 89; refine (rsizeN M _ bM).mono ?_; rintro e w' ⟨rfl, rfl⟩)
        | (refine stepU64 (.tmp 20) (.tmp 24) rfl rfl (by rfl) (by rfl) (own_alloc (show World.ownsRow (World.drew _) _ _ _ _ _ _ from HD.out)) (Sl.new (s := 1) _ 117 1 1 #[.int .u64 (M.natAbs : Int)] rfl (Nat.le_refl _) (by decide)) (by simp [Value.oneCell']) (N := n4 + 1) (by simp) (by have := HL2.out; omega) (by have := HVs.out; simp; omega) ?_; intro A2 c2 w1 hap; have hA := own_alloc (o := .cells #[.int .u64 (M.natAbs : Int)] 117) (show World.ownsRow (World.drew V1) _ _ _ _ _ _ from HD.out); have hO := own_keep (own_alloc (o := .cells #[.int .u64 (M.natAbs : Int)] 117) (show World.ownsRow (World.drew V1) _ _ _ _ _ _ from HU.out)) hap.grown (fun g h1 h2 => HDis.out g h1 h2); have x1 := ((show Cel (World.drew V1) _ _ _ from HX.out).alloc (.cells #[.int .u64 (M.natAbs : Int)] 117)).kept hap.grown (fun e => by have := own_ge hA e.symm; omega); have yr := ((show Cel (World.drew V1) _ _ _ from HY.out).alloc (.cells #[.int .u64 (M.natAbs : Int)] 117)).kept hap.grown (fun e => by exact HN2.out e.symm); have hb1 := (show Below Bf w (World.drew V1) from below_drew HB.out).alloc (by have := HB.out.size; have := HX.out.lt; simp; omega) (.cells #[.int .u64 (M.natAbs : Int)] 117) |>.grown hap.grown (by have := HX.out.lt; simp; omega) (fun g hg => by have := own_ge hA hg; omega); have g1 := x1.frozen 2; have j1 := x1.cell 2 _ rfl; have HOW := Lib.hid hap.own; have HOO := Lib.hid hO; have HBK := Lib.hid hap.block; have HX' := Lib.hid x1; have HY' := Lib.hid yr; have HB1 := Lib.hid hb1; clear hA hO hap x1 yr hb1))
      all_goals (
        go_wp2
        have hnb : (Value.slice A2 (n4 + 1) c2).ownBlock ≠ some w.heap.size := by
          rcases HBK.out with e | e
          · rw [e]; exact HN2.out
          · rw [e]; intro e'; injection e' with e'; have := HVs.out; simp at e'; omega
        have hds : ∀ g, (Value.slice A2 (n4 + 1) c2).ownBlock = some g → (Value.slice A1 k3 c1).ownBlock ≠ some g := by
          rcases HBK.out with e | e
          · rw [e]; exact fun g h1 h2 => HDis.out g h2 h1
          · rw [e]; intro g e' e''; injection e' with e'; subst e'; have := own_lt HU.out e''; simp at this; omega
        have hna : (Value.slice A2 (n4 + 1) c2).ownBlock ≠ some Bf := fun e => by have := own_ge HOW.out e; omega
        have hnd : (Value.slice A1 k3 c1).ownBlock ≠ some Bf := fun e => by have := own_ge HOO.out e; omega
        have hne : ¬ w.heap.size = Bf := by omega
        go_meet
        exact ⟨_, A2, c2, rfl, HX'.out.setAt 2 _, own_ne HOW.out (p := ⟨Bf, 2, none⟩) hna _, own_ne HOO.out (p := ⟨Bf, 2, none⟩) hnd _, hds, HN1.out, hnb, HY'.out.other (by simp; omega) _, HB1.out.setCell (p := ⟨Bf, 2, none⟩) (by simp) _⟩)
    case rest =>
      obtain ⟨V2, A2, c2, rfl, hX, hD, hU, hDis, hNu, hNd, hY, hB⟩ := hcut
      clear HX HY HU HD HB HDis HN1 HN2 hxl hyl cA q0 r0 r1
      have r0 := hY.cell 0 (.int .i64 N) rfl
      have x0 := hX.cell 0 (.bool neg) rfl
      have fx0 := hX.frozen 0
      have hxl := hX.lt
      have HX := Lib.hid hX
      have HU := Lib.hid hU
      have HD := Lib.hid hD
      have HB := Lib.hid hB
      have HDis := Lib.hid hDis
      have hna : (Value.slice A1 k3 c1).ownBlock ≠ some Bf := fun e => by have := own_ge hU e; omega
      have hnd : (Value.slice A2 (n4 + 1) c2).ownBlock ≠ some Bf := fun e => by have := own_ge hD e; omega
      have HNA := Lib.hid hna
      have HNDD := Lib.hid hnd
      clear hX hU hD hDis hNd hNu hY hB hna hnd
      go_wp2
      go_region
      all_goals
        go_wp2
        go_end0
        have hl1 : (U ++ [N.natAbs]).length = k3 := by rw [List.length_append, HN3.out]; exact HK3.out
        have hl2 : (D ++ [M.natAbs]).length = n4 + 1 := by rw [List.length_append, HN4.out]; rfl
        have hx1 : u64s (U ++ [N.natAbs]) = X5 := by rw [HE1.out]; exact HX5.out
        refine ⟨rfl, ⟨.slice A1 k3 c1, .slice A2 (n4 + 1) c2, (show Cel (World.drew (V2.setCell ⟨Bf, 0, none⟩ _)) _ _ _ from HX.out.setAt 0 _), hlt, ?_, ?_, fun g h1 h2 => HDis.out g h2 h1⟩, below_drew (HB.out.setCell (p := ⟨Bf, 0, none⟩) (by simp) _)⟩
        · rw [hl1, hx1]; exact own_ne HU.out (p := ⟨Bf, 0, none⟩) HNA.out _
        · rw [hl2, HE2.out]; exact own_ne HD.out (p := ⟨Bf, 0, none⟩) HNDD.out _
set_option maxRecDepth 100000 in
set_option maxHeartbeats 4000000 in
theorem fover_any (base Bf : Nat) (neg : Bool) (U D : List Nat) (N M : Int) (w : World) (h : FrO w base Bf neg U D) (hbase : base ≤ w.heap.size) (bN : Bd N) (bM : Bd M) (lU : U.length ≤ 1000000) (lD : D.length ≤ 1000000) :
    Calls Tryd.prog 120 #[.pointer (some ⟨Bf, 0, none⟩), .agg #[.int .i64 N, .int .i64 M]] w fun e w' => e = .returned (.tuple #[]) ∧ FrO w' base Bf (neg != decide (N < 0)) (U ++ [M.natAbs]) (D ++ [N.natAbs]) ∧ Below Bf w w' := by
  obtain ⟨sN, sD, hC, hlt, h1, h2, hdis⟩ := h
  obtain ⟨A3, c3, rfl, hc3, hm3, f3⟩ := own_slice h1
  obtain ⟨A4, c4, rfl, hc4, hm4, f4⟩ := own_slice h2
  have HE1 := Lib.hid (u64s_append U [M.natAbs])
  have HE2 := Lib.hid (u64s_append D [N.natAbs])
  have HL1 := Lib.hid (show (u64s U).length = U.length ∧ U.length ≤ 1000000 from ⟨u64s_length U, lU⟩)
  have HL2 := Lib.hid (show (u64s D).length = D.length ∧ D.length ≤ 1000000 from ⟨u64s_length D, lD⟩)
  have hBw := hC.lt
  obtain ⟨n3, hn3⟩ : ∃ n3, U.length = n3 := ⟨_, rfl⟩
  obtain ⟨n4, hn4⟩ : ∃ n4, D.length = n4 := ⟨_, rfl⟩
  obtain ⟨X3, hx3⟩ : ∃ X3, u64s U = X3 := ⟨_, rfl⟩
  obtain ⟨X4, hx4⟩ : ∃ X4, u64s D = X4 := ⟨_, rfl⟩
  rw [hn3, hx3] at h1
  rw [hn4, hx4] at h2
  rw [hn3] at hC hc3 HL1 f3 hdis
  rw [hn4] at hC hc4 HL2 f4 hdis
  rw [hx3] at HL1 HE1
  rw [hx4] at HL2 HE2
  have HN3 := Lib.hid hn3
  have HN4 := Lib.hid hn4
  clear hn3 hn4 hx3 hx4 lU lD f3 f4
  have HNU : Hid ((Value.slice A3 n3 c3).ownBlock ≠ some w.heap.size) := fun e => by have := own_lt h1 e; omega
  have HND : Hid ((Value.slice A4 n4 c4).ownBlock ≠ some w.heap.size) := fun e => by have := own_lt h2 e; omega
  have HU0 := Lib.hid (own_alloc (o := .cells #[.int .i64 N, .int .i64 M] 23) h1)
  have HD0 := Lib.hid (own_alloc (o := .cells #[.int .i64 N, .int .i64 M] 23) h2)
  have HX0 := Lib.hid (hC.alloc (.cells #[.int .i64 N, .int .i64 M] 23))
  have HY0 := Lib.hid (Cel.new w 23 #[.int .i64 N, .int .i64 M])
  have HB0 := Lib.hid ((Below.refl Bf w).alloc (by omega) (.cells #[.int .i64 N, .int .i64 M] 23))
  have HDis0 := Lib.hid hdis
  clear h1 h2 hC hdis
  go_enter Tryd.func120, Tryd.ntmps120
  go_upto_region 1 with fail
  obtain ⟨V, hV⟩ : ∃ V, w.alloc (.cells #[.int .i64 N, .int .i64 M] 23) = V := ⟨_, rfl⟩
  rw [hV] at HU0 HD0 HX0 HY0 HB0 ⊢
  have HVs := Lib.hid (show V.heap.size = w.heap.size + 1 by rw [← hV]; simp)
  clear hV
  have HU := HU0
  have HD := HD0
  have HX := HX0
  have HY := HY0
  have HB := HB0
  have HDis := HDis0
  have HN1 := HNU
  have HN2 := HND
  clear HU0 HD0 HX0 HY0 HB0 HDis0 HNU HND
  have r0 := HY.out.cell 0 (.int .i64 N) rfl
  have r1 := HY.out.cell 1 (.int .i64 M) rfl
  have hxl := HX.out.lt
  have hyl := HY.out.lt
  have cA := ((show Cel (World.drew V) _ _ _ from HX.out).alloc (.cells #[.int .u64 (M.natAbs : Int)] 117)).cell 1 _ rfl
  have q0 := HX.out.cell 1 _ rfl
  go_cut [] (fun wx => ∃ (Wx : World) (A1 : Option Addr) (c1 : Nat), Wx = wx ∧ Cel wx Bf 150 #[.bool neg, .slice A1 (n3 + 1) c1, .slice A4 n4 c4] ∧ wx.ownsRow base 117 1 (.slice A1 (n3 + 1) c1) (n3 + 1) (X3 ++ [.int .u64 (M.natAbs : Int)]) ∧ wx.ownsRow base 117 1 (.slice A4 n4 c4) n4 X4 ∧ (∀ g, (Value.slice A1 (n3 + 1) c1).ownBlock = some g → (Value.slice A4 n4 c4).ownBlock ≠ some g) ∧ (Value.slice A4 n4 c4).ownBlock ≠ some w.heap.size ∧ (Value.slice A1 (n3 + 1) c1).ownBlock ≠ some w.heap.size ∧ Cel wx w.heap.size 23 #[.int .i64 N, .int .i64 M] ∧ Below Bf w wx)
  case first =>
    go_region_law (first
      | (go_simp; go_at_call 89; refine (rsizeN M _ bM).mono ?_; rintro e w' ⟨rfl, rfl⟩)
      | (refine stepU64 (.tmp 8) (.tmp 12) rfl rfl (by rfl) (by rfl) (own_alloc (show World.ownsRow (World.drew _) _ _ _ _ _ _ from HU.out)) (Sl.new (s := 1) _ 117 1 1 #[.int .u64 (M.natAbs : Int)] rfl (Nat.le_refl _) (by decide)) (by simp [Value.oneCell']) (N := n3 + 1) (by simp) (by have := HL1.out; omega) (by have := HVs.out; simp; omega) ?_; intro A1 c1 w1 hap; have hA := own_alloc (o := .cells #[.int .u64 (M.natAbs : Int)] 117) (show World.ownsRow (World.drew V) _ _ _ _ _ _ from HU.out); have hO := own_keep (own_alloc (o := .cells #[.int .u64 (M.natAbs : Int)] 117) (show World.ownsRow (World.drew V) _ _ _ _ _ _ from HD.out)) hap.grown (fun g h1 h2 => HDis.out g h2 h1); have x1 := ((show Cel (World.drew V) _ _ _ from HX.out).alloc (.cells #[.int .u64 (M.natAbs : Int)] 117)).kept hap.grown (fun e => by have := own_ge hA e.symm; omega); have yr := ((show Cel (World.drew V) _ _ _ from HY.out).alloc (.cells #[.int .u64 (M.natAbs : Int)] 117)).kept hap.grown (fun e => by exact HN1.out e.symm); have hb1 := (show Below Bf w (World.drew V) from below_drew HB.out).alloc (by have := HB.out.size; have := HX.out.lt; simp; omega) (.cells #[.int .u64 (M.natAbs : Int)] 117) |>.grown hap.grown (by have := HX.out.lt; simp; omega) (fun g hg => by have := own_ge hA hg; omega); have g1 := x1.frozen 1; have j1 := x1.cell 1 _ rfl; have HOW := Lib.hid hap.own; have HOO := Lib.hid hO; have HBK := Lib.hid hap.block; have HX' := Lib.hid x1; have HY' := Lib.hid yr; have HB1 := Lib.hid hb1; clear hA hO hap x1 yr hb1))
    all_goals (
      go_wp2
      have hnb : (Value.slice A1 (n3 + 1) c1).ownBlock ≠ some w.heap.size := by
        rcases HBK.out with e | e
        · rw [e]; exact HN1.out
        · rw [e]; intro e'; injection e' with e'; have := HVs.out; simp at e'; omega
      have hds : ∀ g, (Value.slice A1 (n3 + 1) c1).ownBlock = some g → (Value.slice A4 n4 c4).ownBlock ≠ some g := by
        rcases HBK.out with e | e
        · rw [e]; exact HDis.out
        · rw [e]; intro g e' e''; injection e' with e'; subst e'; have := own_lt HD.out e''; simp at this; omega
      have hna : (Value.slice A1 (n3 + 1) c1).ownBlock ≠ some Bf := fun e => by have := own_ge HOW.out e; omega
      have hnd : (Value.slice A4 n4 c4).ownBlock ≠ some Bf := fun e => by have := own_ge HOO.out e; omega
      have hne : ¬ w.heap.size = Bf := by omega
      go_meet
      exact ⟨_, A1, c1, rfl, HX'.out.setAt 1 _, own_ne HOW.out (p := ⟨Bf, 1, none⟩) hna _, own_ne HOO.out (p := ⟨Bf, 1, none⟩) hnd _, hds, HN2.out, hnb, HY'.out.other (by simp; omega) _, HB1.out.setCell (p := ⟨Bf, 1, none⟩) (by simp) _⟩)
  case rest =>
    obtain ⟨V1, A1, c1, rfl, hX, hU, hD, hDis, hNd, hNu, hY, hB⟩ := hcut
    clear HX HY HU HD HB HDis HN1 HN2 hxl hyl cA q0 r0 r1
    have HX := Lib.hid hX
    have HY := Lib.hid hY
    have HU := Lib.hid hU
    have HD := Lib.hid hD
    have HB := Lib.hid hB
    have HDis := Lib.hid hDis
    have HN1 := Lib.hid hNu
    have HN2 := Lib.hid hNd
    have HVs1 := Lib.hid (show w.heap.size < V1.heap.size from hY.lt)
    clear HVs
    have HVs := HVs1
    clear HVs1
    have r0 := HY.out.cell 0 (.int .i64 N) rfl
    have r1 := HY.out.cell 1 (.int .i64 M) rfl
    have hxl := HX.out.lt
    have hyl := HY.out.lt
    clear hX hU hD hDis hNd hNu hY hB
    obtain ⟨k3, hk3⟩ : ∃ k3, n3 + 1 = k3 := ⟨_, rfl⟩
    obtain ⟨X5, hX5⟩ : ∃ X5, X3 ++ [Value.int .u64 (M.natAbs : Int)] = X5 := ⟨_, rfl⟩
    rw [hk3] at HX HU HDis HN1
    rw [hX5] at HU
    have HK3 := Lib.hid hk3
    have HX5 := Lib.hid hX5
    clear hk3 hX5
    go_upto_region 2 with fail
    have cA := ((show Cel (World.drew V1) _ _ _ from HX.out).alloc (.cells #[.int .u64 (N.natAbs : Int)] 117)).cell 2 _ rfl
    have q0 := HX.out.cell 2 _ rfl
    go_cut [] (fun wx => ∃ (Wx : World) (A2 : Option Addr) (c2 : Nat), Wx = wx ∧ Cel wx Bf 150 #[.bool neg, .slice A1 k3 c1, .slice A2 (n4 + 1) c2] ∧ wx.ownsRow base 117 1 (.slice A2 (n4 + 1) c2) (n4 + 1) (X4 ++ [.int .u64 (N.natAbs : Int)]) ∧ wx.ownsRow base 117 1 (.slice A1 k3 c1) k3 X5 ∧ (∀ g, (Value.slice A2 (n4 + 1) c2).ownBlock = some g → (Value.slice A1 k3 c1).ownBlock ≠ some g) ∧ (Value.slice A1 k3 c1).ownBlock ≠ some w.heap.size ∧ (Value.slice A2 (n4 + 1) c2).ownBlock ≠ some w.heap.size ∧ Cel wx w.heap.size 23 #[.int .i64 N, .int .i64 M] ∧ Below Bf w wx)
    case first =>
      go_region_law (first
        | (go_simp; go_at_call 89; refine (rsizeN N _ bN).mono ?_; rintro e w' ⟨rfl, rfl⟩)
        | (refine stepU64 (.tmp 20) (.tmp 24) rfl rfl (by rfl) (by rfl) (own_alloc (show World.ownsRow (World.drew _) _ _ _ _ _ _ from HD.out)) (Sl.new (s := 1) _ 117 1 1 #[.int .u64 (N.natAbs : Int)] rfl (Nat.le_refl _) (by decide)) (by simp [Value.oneCell']) (N := n4 + 1) (by simp) (by have := HL2.out; omega) (by have := HVs.out; simp; omega) ?_; intro A2 c2 w1 hap; have hA := own_alloc (o := .cells #[.int .u64 (N.natAbs : Int)] 117) (show World.ownsRow (World.drew V1) _ _ _ _ _ _ from HD.out); have hO := own_keep (own_alloc (o := .cells #[.int .u64 (N.natAbs : Int)] 117) (show World.ownsRow (World.drew V1) _ _ _ _ _ _ from HU.out)) hap.grown (fun g h1 h2 => HDis.out g h1 h2); have x1 := ((show Cel (World.drew V1) _ _ _ from HX.out).alloc (.cells #[.int .u64 (N.natAbs : Int)] 117)).kept hap.grown (fun e => by have := own_ge hA e.symm; omega); have yr := ((show Cel (World.drew V1) _ _ _ from HY.out).alloc (.cells #[.int .u64 (N.natAbs : Int)] 117)).kept hap.grown (fun e => by exact HN2.out e.symm); have hb1 := (show Below Bf w (World.drew V1) from below_drew HB.out).alloc (by have := HB.out.size; have := HX.out.lt; simp; omega) (.cells #[.int .u64 (N.natAbs : Int)] 117) |>.grown hap.grown (by have := HX.out.lt; simp; omega) (fun g hg => by have := own_ge hA hg; omega); have g1 := x1.frozen 2; have j1 := x1.cell 2 _ rfl; have HOW := Lib.hid hap.own; have HOO := Lib.hid hO; have HBK := Lib.hid hap.block; have HX' := Lib.hid x1; have HY' := Lib.hid yr; have HB1 := Lib.hid hb1; clear hA hO hap x1 yr hb1))
      all_goals (
        go_wp2
        have hnb : (Value.slice A2 (n4 + 1) c2).ownBlock ≠ some w.heap.size := by
          rcases HBK.out with e | e
          · rw [e]; exact HN2.out
          · rw [e]; intro e'; injection e' with e'; have := HVs.out; simp at e'; omega
        have hds : ∀ g, (Value.slice A2 (n4 + 1) c2).ownBlock = some g → (Value.slice A1 k3 c1).ownBlock ≠ some g := by
          rcases HBK.out with e | e
          · rw [e]; exact fun g h1 h2 => HDis.out g h2 h1
          · rw [e]; intro g e' e''; injection e' with e'; subst e'; have := own_lt HU.out e''; simp at this; omega
        have hna : (Value.slice A2 (n4 + 1) c2).ownBlock ≠ some Bf := fun e => by have := own_ge HOW.out e; omega
        have hnd : (Value.slice A1 k3 c1).ownBlock ≠ some Bf := fun e => by have := own_ge HOO.out e; omega
        have hne : ¬ w.heap.size = Bf := by omega
        go_meet
        exact ⟨_, A2, c2, rfl, HX'.out.setAt 2 _, own_ne HOW.out (p := ⟨Bf, 2, none⟩) hna _, own_ne HOO.out (p := ⟨Bf, 2, none⟩) hnd _, hds, HN1.out, hnb, HY'.out.other (by simp; omega) _, HB1.out.setCell (p := ⟨Bf, 2, none⟩) (by simp) _⟩)
    case rest =>
      obtain ⟨V2, A2, c2, rfl, hX, hD, hU, hDis, hNu, hNd, hY, hB⟩ := hcut
      clear HX HY HU HD HB HDis HN1 HN2 hxl hyl cA q0 r0 r1
      have r0 := hY.cell 0 (.int .i64 N) rfl
      have x0 := hX.cell 0 (.bool neg) rfl
      have fx0 := hX.frozen 0
      have hxl := hX.lt
      have HX := Lib.hid hX
      have HU := Lib.hid hU
      have HD := Lib.hid hD
      have HB := Lib.hid hB
      have HDis := Lib.hid hDis
      have hna : (Value.slice A1 k3 c1).ownBlock ≠ some Bf := fun e => by have := own_ge hU e; omega
      have hnd : (Value.slice A2 (n4 + 1) c2).ownBlock ≠ some Bf := fun e => by have := own_ge hD e; omega
      have HNA := Lib.hid hna
      have HNDD := Lib.hid hnd
      clear hX hU hD hDis hNd hNu hY hB hna hnd
      go_wp2
      go_region
      all_goals
        go_wp2
        go_end0
        have hl1 : (U ++ [M.natAbs]).length = k3 := by rw [List.length_append, HN3.out]; exact HK3.out
        have hl2 : (D ++ [N.natAbs]).length = n4 + 1 := by rw [List.length_append, HN4.out]; rfl
        have hx1 : u64s (U ++ [M.natAbs]) = X5 := by rw [HE1.out]; exact HX5.out
        refine ⟨rfl, ⟨.slice A1 k3 c1, .slice A2 (n4 + 1) c2, (show Cel (World.drew (V2.setCell ⟨Bf, 0, none⟩ _)) _ _ _ from HX.out.setAt 0 _), hlt, ?_, ?_, fun g h1 h2 => HDis.out g h2 h1⟩, below_drew (HB.out.setCell (p := ⟨Bf, 0, none⟩) (by simp) _)⟩
        · rw [hl1, hx1]; exact own_ne HU.out (p := ⟨Bf, 0, none⟩) HNA.out _
        · rw [hl2, HE2.out]; exact own_ne HD.out (p := ⟨Bf, 0, none⟩) HNDD.out _
end Go.Proofs.YtmibpncmebhbjaaDoor
