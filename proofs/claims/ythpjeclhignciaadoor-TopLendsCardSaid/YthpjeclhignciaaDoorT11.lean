/- Walks of the package date: Between, Scheme. Conditions: those stated. -/
import Derived.Test.YthpjeclhignciaaDoorT10
namespace Go.Proofs.YthpjeclhignciaaDoor
open Go Go.RowKit Go.Shelf
attribute [local go_sem] Oper.semAt_some

/-- The schematic days between two dates. -/
def schemeF (ka kb : Nat) (a b : Dt) : Int := 30 * (((kb : Int) + 1) - ((ka : Int) + 1)) + b.D - a.D

set_option maxRecDepth 100000 in
set_option maxHeartbeats 2000000 in
theorem Between_yes (v : Value) (ks : List ByteArray) (ys : List Yr) (a b : Dt) (ka kb : Nat) (ma mb : Mo) (w : World) (hv : CalW w v ks ys) (ha : InC ks ys a ka ma) (hb : InC ks ys b kb mb) :
    Calls Tryd.prog 7 #[v, dtA a, dtA b] w fun e w' => e = .returned (.tuple #[.int .i64 (dayOf mb b - dayOf ma a), .int .i64 0]) ∧ Below w.heap.size w w' := by
  obtain ⟨x, y, rfl⟩ := hv.shape
  have hc : chF ks ys [a, b] = 0 := by unfold chF; rw [ha.cal]; simp [ha.inB, hb.inB]
  have hna := fun w' (h : CalW w' (.agg #[x, y]) ks ys) => h.number ha
  have hnb := fun w' (h : CalW w' (.agg #[x, y]) ks ys) => h.number hb
  obtain ⟨p1, p2, p3, p4, p5⟩ := ha.bd
  obtain ⟨q1, q2, q3, q4, q5⟩ := hb.bd
  have HE := Lib.hid (show dayOf ma a = ma.day + a.D - 1 ∧ dayOf mb b = mb.day + b.D - 1 from ⟨rfl, rfl⟩)
  have r1 : -1000000 ≤ dayOf ma a ∧ dayOf ma a ≤ 1000000 := by rw [HE.out.1]; omega
  have r2 : -1000000 ≤ dayOf mb b ∧ dayOf mb b ≤ 1000000 := by rw [HE.out.2]; omega
  have HS := Lib.hid (show schemeF ka kb a b = 30 * (((kb : Int) + 1) - ((ka : Int) + 1)) + b.D - a.D from rfl)
  obtain ⟨r1, r1'⟩ := r1
  obtain ⟨r2, r2'⟩ := r2
  obtain ⟨aY, aM, aS, aD⟩ := a
  obtain ⟨bY, bM, bS, bD⟩ := b
  simp only at p3 p4 q3 q4 HS
  have hB0 : Below w.heap.size w (((w.alloc (.cells #[x, y] 25)).alloc (.cells #[.int .i64 aY, .int .i64 aM, .bool aS, .int .i64 aD] 29)).alloc (.cells #[.int .i64 bY, .int .i64 bM, .bool bS, .int .i64 bD] 29)) := ((below_alloc' _ _).alloc (by simp) _).alloc (by simp; omega) _
  have hB1 := hB0.alloc hB0.size (.cells #[.int .i64 aY, .int .i64 aM, .bool aS, .int .i64 aD, .int .i64 bY, .int .i64 bM, .bool bS, .int .i64 bD] 29)
  have Y0 := (((Cel.new w 25 #[x, y]).alloc (.cells #[.int .i64 aY, .int .i64 aM, .bool aS, .int .i64 aD] 29)).alloc (.cells #[.int .i64 bY, .int .i64 bM, .bool bS, .int .i64 bD] 29)).alloc (.cells #[.int .i64 aY, .int .i64 aM, .bool aS, .int .i64 aD, .int .i64 bY, .int .i64 bM, .bool bS, .int .i64 bD] 29)
  have Y1 := ((Cel.new (w.alloc (.cells #[x, y] 25)) 29 #[.int .i64 aY, .int .i64 aM, .bool aS, .int .i64 aD]).alloc (.cells #[.int .i64 bY, .int .i64 bM, .bool bS, .int .i64 bD] 29)).alloc (.cells #[.int .i64 aY, .int .i64 aM, .bool aS, .int .i64 aD, .int .i64 bY, .int .i64 bM, .bool bS, .int .i64 bD] 29)
  have Y2 := (Cel.new ((w.alloc (.cells #[x, y] 25)).alloc (.cells #[.int .i64 aY, .int .i64 aM, .bool aS, .int .i64 aD] 29)) 29 #[.int .i64 bY, .int .i64 bM, .bool bS, .int .i64 bD]).alloc (.cells #[.int .i64 aY, .int .i64 aM, .bool aS, .int .i64 aD, .int .i64 bY, .int .i64 bM, .bool bS, .int .i64 bD] 29)
  simp only [World.size_alloc] at Y1 Y2
  have hk := checks_any (.agg #[x, y]) ks ys _ [⟨aY, aM, aS, aD⟩, ⟨bY, bM, bS, bD⟩] _ (hv.below hB1) (slD2 _ _ _ (w.heap.size + 1 + 1 + 1) (by simp))
  rw [hc] at hk
  have HK := Lib.hid hk
  have HNA := Lib.hid hna
  have HNB := Lib.hid hnb
  have HV := Lib.hid (hv.below hB1)
  clear hk hv hc ha hb hna hnb HE
  simp only [dtA] at HNA HNB ⊢
  generalize dayOf ma ⟨aY, aM, aS, aD⟩ = da at *
  generalize dayOf mb ⟨bY, bM, bS, bD⟩ = db at *
  go_enter Tryd.func7, Tryd.ntmps7
  go_wp2_with (first
    | (go_at_call 11; refine HK.out.mono ?_; rintro e w1 ⟨rfl, hb⟩; have T0 := Y0.below Y0.lt hb; have T1 := Y1.below Y1.lt hb; have T2 := Y2.below Y2.lt hb; have z0 := T0.cell 0 _ rfl; have z1 := T0.cell 1 _ rfl; have u0 := T1.cell 0 _ rfl; have u1 := T1.cell 1 _ rfl; have u2 := T1.cell 2 _ rfl; have u3 := T1.cell 3 _ rfl)
    | (go_at_call 17; (with_reducible refine (HNA.out _ (HV.out.below hb)).mono ?_); rintro e w2 ⟨rfl, hb2⟩; have S0 := T0.below T0.lt hb2; have S1 := T1.below T1.lt hb2; have S2 := T2.below T2.lt hb2; have z0 := S0.cell 0 _ rfl; have z1 := S0.cell 1 _ rfl; have u3 := S1.cell 3 _ rfl; have v0 := S2.cell 0 _ rfl; have v1 := S2.cell 1 _ rfl; have v2 := S2.cell 2 _ rfl; have v3 := S2.cell 3 _ rfl)
    | (go_at_call 17; (with_reducible refine (HNB.out _ ((HV.out.below hb).below hb2)).mono ?_); rintro e w3 ⟨rfl, hb3⟩; have R1 := S1.below S1.lt hb3; have R2 := S2.below S2.lt hb3; have u3 := R1.cell 3 _ rfl; have v3 := R2.cell 3 _ rfl))
  go_ret2
  exact ⟨rfl, below_then (below_then (below_then hB1 hb) hb2) hb3⟩

set_option maxRecDepth 100000 in
set_option maxHeartbeats 2000000 in
theorem Scheme_yes (v : Value) (ks : List ByteArray) (ys : List Yr) (a b : Dt) (ka kb : Nat) (ma mb : Mo) (w : World) (hv : CalW w v ks ys) (ha : InC ks ys a ka ma) (hb : InC ks ys b kb mb) :
    Calls Tryd.prog 8 #[v, dtA a, dtA b] w fun e w' => e = .returned (.tuple #[.int .i64 (schemeF ka kb a b), .int .i64 0]) ∧ Below w.heap.size w w' := by
  obtain ⟨x, y, rfl⟩ := hv.shape
  have hc : chF ks ys [a, b] = 0 := by unfold chF; rw [ha.cal]; simp [ha.inB, hb.inB]
  have hna := fun w' (h : CalW w' (.agg #[x, y]) ks ys) => h.number ha
  have hnb := fun w' (h : CalW w' (.agg #[x, y]) ks ys) => h.number hb
  obtain ⟨p1, p2, p3, p4, p5⟩ := ha.bd
  obtain ⟨q1, q2, q3, q4, q5⟩ := hb.bd
  have HE := Lib.hid (show dayOf ma a = ma.day + a.D - 1 ∧ dayOf mb b = mb.day + b.D - 1 from ⟨rfl, rfl⟩)
  have r1 : -1000000 ≤ dayOf ma a ∧ dayOf ma a ≤ 1000000 := by rw [HE.out.1]; omega
  have r2 : -1000000 ≤ dayOf mb b ∧ dayOf mb b ≤ 1000000 := by rw [HE.out.2]; omega
  have HS := Lib.hid (show schemeF ka kb a b = 30 * (((kb : Int) + 1) - ((ka : Int) + 1)) + b.D - a.D from rfl)
  obtain ⟨r1, r1'⟩ := r1
  obtain ⟨r2, r2'⟩ := r2
  obtain ⟨aY, aM, aS, aD⟩ := a
  obtain ⟨bY, bM, bS, bD⟩ := b
  simp only at p3 p4 q3 q4 HS
  have hB0 : Below w.heap.size w (((w.alloc (.cells #[x, y] 25)).alloc (.cells #[.int .i64 aY, .int .i64 aM, .bool aS, .int .i64 aD] 29)).alloc (.cells #[.int .i64 bY, .int .i64 bM, .bool bS, .int .i64 bD] 29)) := ((below_alloc' _ _).alloc (by simp) _).alloc (by simp; omega) _
  have hB1 := hB0.alloc hB0.size (.cells #[.int .i64 aY, .int .i64 aM, .bool aS, .int .i64 aD, .int .i64 bY, .int .i64 bM, .bool bS, .int .i64 bD] 29)
  have Y0 := (((Cel.new w 25 #[x, y]).alloc (.cells #[.int .i64 aY, .int .i64 aM, .bool aS, .int .i64 aD] 29)).alloc (.cells #[.int .i64 bY, .int .i64 bM, .bool bS, .int .i64 bD] 29)).alloc (.cells #[.int .i64 aY, .int .i64 aM, .bool aS, .int .i64 aD, .int .i64 bY, .int .i64 bM, .bool bS, .int .i64 bD] 29)
  have Y1 := ((Cel.new (w.alloc (.cells #[x, y] 25)) 29 #[.int .i64 aY, .int .i64 aM, .bool aS, .int .i64 aD]).alloc (.cells #[.int .i64 bY, .int .i64 bM, .bool bS, .int .i64 bD] 29)).alloc (.cells #[.int .i64 aY, .int .i64 aM, .bool aS, .int .i64 aD, .int .i64 bY, .int .i64 bM, .bool bS, .int .i64 bD] 29)
  have Y2 := (Cel.new ((w.alloc (.cells #[x, y] 25)).alloc (.cells #[.int .i64 aY, .int .i64 aM, .bool aS, .int .i64 aD] 29)) 29 #[.int .i64 bY, .int .i64 bM, .bool bS, .int .i64 bD]).alloc (.cells #[.int .i64 aY, .int .i64 aM, .bool aS, .int .i64 aD, .int .i64 bY, .int .i64 bM, .bool bS, .int .i64 bD] 29)
  simp only [World.size_alloc] at Y1 Y2
  have hk := checks_any (.agg #[x, y]) ks ys _ [⟨aY, aM, aS, aD⟩, ⟨bY, bM, bS, bD⟩] _ (hv.below hB1) (slD2 _ _ _ (w.heap.size + 1 + 1 + 1) (by simp))
  rw [hc] at hk
  have HK := Lib.hid hk
  have HNA := Lib.hid hna
  have HNB := Lib.hid hnb
  have HV := Lib.hid (hv.below hB1)
  clear hk hv hc ha hb hna hnb HE
  simp only [dtA] at HNA HNB ⊢
  generalize dayOf ma ⟨aY, aM, aS, aD⟩ = da at *
  generalize dayOf mb ⟨bY, bM, bS, bD⟩ = db at *
  go_enter Tryd.func8, Tryd.ntmps8
  go_wp2_with (first
    | (go_at_call 11; refine HK.out.mono ?_; rintro e w1 ⟨rfl, hb⟩; have T0 := Y0.below Y0.lt hb; have T1 := Y1.below Y1.lt hb; have T2 := Y2.below Y2.lt hb; have z0 := T0.cell 0 _ rfl; have z1 := T0.cell 1 _ rfl; have u0 := T1.cell 0 _ rfl; have u1 := T1.cell 1 _ rfl; have u2 := T1.cell 2 _ rfl; have u3 := T1.cell 3 _ rfl)
    | (go_at_call 17; (with_reducible refine (HNA.out _ (HV.out.below hb)).mono ?_); rintro e w2 ⟨rfl, hb2⟩; have S0 := T0.below T0.lt hb2; have S1 := T1.below T1.lt hb2; have S2 := T2.below T2.lt hb2; have z0 := S0.cell 0 _ rfl; have z1 := S0.cell 1 _ rfl; have u3 := S1.cell 3 _ rfl; have v0 := S2.cell 0 _ rfl; have v1 := S2.cell 1 _ rfl; have v2 := S2.cell 2 _ rfl; have v3 := S2.cell 3 _ rfl)
    | (go_at_call 17; (with_reducible refine (HNB.out _ ((HV.out.below hb).below hb2)).mono ?_); rintro e w3 ⟨rfl, hb3⟩; have R1 := S1.below S1.lt hb3; have R2 := S2.below S2.lt hb3; have u3 := R1.cell 3 _ rfl; have v3 := R2.cell 3 _ rfl))
  go_ret2
  exact ⟨by rw [HS.out]; rfl, below_then (below_then (below_then hB1 hb) hb2) hb3⟩
end Go.Proofs.YthpjeclhignciaaDoor
