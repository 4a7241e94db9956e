/- Fractions of the reference: value. -/
import Derived.Test.YtmibpncmebhbjaaDoorFrac1
import Derived.Test.YtmibpncmebhbjaaDoorP6
namespace Go.Proofs.YtmibpncmebhbjaaDoor
open Go Go.RowKit Go.Shelf
attribute [local go_sem] Oper.semAt_some rrV

theorem rproduct_yes (v : Value) (l : List Nat) (most : Nat) (w : World) (hv : Sl w 1 v (u64s l)) (ho : Ones l) (hm0 : 1 ≤ most) (hm : most < 18446744073709551616) (h : prodN l ≤ most) :
    Calls Tryd.prog 131 #[v, .int .u64 most] w fun e w' => e = .returned (.tuple #[.int .u64 (prodN l : Int), .bool true]) ∧ ∃ n, w' = w.drewN n :=
  (rproduct_any v l most w hv ho hm0 hm).mono fun _ _ ⟨h1, h2⟩ => ⟨h1.elim (fun h => h.2) (fun k => absurd h k.1), h2⟩
theorem rproduct_no (v : Value) (l : List Nat) (most : Nat) (w : World) (hv : Sl w 1 v (u64s l)) (ho : Ones l) (hm0 : 1 ≤ most) (hm : most < 18446744073709551616) (h : ¬ prodN l ≤ most) :
    Calls Tryd.prog 131 #[v, .int .u64 most] w fun e w' => e = .returned (.tuple #[.int .u64 0, .bool false]) ∧ ∃ n, w' = w.drewN n :=
  (rproduct_any v l most w hv ho hm0 hm).mono fun _ _ ⟨h1, h2⟩ => ⟨h1.elim (fun k => absurd k.1 h) (fun h => h.2), h2⟩
def prodR (l : List Nat) (most : Nat) : Value := if prodN l ≤ most then .tuple #[.int .u64 (prodN l : Int), .bool true] else .tuple #[.int .u64 0, .bool false]

set_option maxRecDepth 100000 in
set_option maxHeartbeats 1000000 in
theorem fvalue_any (base Bf : Nat) (neg : Bool) (U D : List Nat) (w : World) (h : FrO w base Bf neg U D) (hbase : base ≤ w.heap.size) (hU : Ones U) (hD : Ones D) :
    Calls Tryd.prog 113 #[.pointer (some ⟨Bf, 0, none⟩)] w fun e w' => e = .returned (rrV (fit (sgn neg (val U D)))) ∧ Below base w w' := by
  have hc := cancel_any base Bf neg U D (w.alloc (.cells #[.int .i64 0, .int .i64 0] 23)) (h.below (below_alloc' _ _)) hU hD
  have hb0 : Below base w (w.alloc (.cells #[.int .i64 0, .int .i64 0] 23)) := (Below.refl _ _).alloc hbase _
  have HC := Lib.hid hc
  clear hc h hU hD
  go_enter Tryd.func113, Tryd.ntmps113
  go_wp2_with fail
  go_fit HC.out
  rintro e w1 ⟨rfl, U', D', h1, hl1, hl2, o1, o2, hr, hb1, hk⟩
  obtain ⟨sN, sD, hC, hlt, g1, g2, _⟩ := h1
  obtain ⟨A3, c3, rfl, g1⟩ := own_shape g1
  obtain ⟨A4, c4, rfl, g2⟩ := own_shape g2
  have S1 := Lib.hid (Sl.of_own g1)
  have S2 := Lib.hid (Sl.of_own g2)
  have HY := Lib.hid (hk _ _ _ (Cel.new w 23 #[.int .i64 0, .int .i64 0]) (by decide))
  have HB := Lib.hid (hb0.trans hb1)
  have q0 := hC.cell 0 _ rfl
  have q1 := hC.cell 1 _ rfl
  have q2 := hC.cell 2 _ rfl
  have HV := Lib.hid (show val U' D' = val U D by rw [← hr.val]; unfold val; rw [prodN_filter, prodN_filter])
  have HR := Lib.hid hr
  have O1 := Lib.hid o1
  have O2 := Lib.hid o2
  have p1d := o2.pos
  have HCE := Lib.hid hC
  clear HC hb0 hb1 hk hC g1 g2 hl1 hl2 hr o1 o2
  go_wp2_with fail
  by_cases h1 : prodN U' ≤ 1099511627776
  · go_fit (rproduct_yes _ U' 1099511627776 w1 S1.out O1.out (by decide) (by decide) h1)
    rintro e w2 ⟨rfl, n1, rfl⟩
    go_wp2_with fail
    by_cases h2 : prodN D' ≤ 1048576
    · have hq := rproduct_yes (.slice A4 D'.length c4) D' 1048576 (w1.drewN n1) (S2.out.drewN n1) O2.out (by decide) (by decide) h2
      go_fit hq
      rintro e w2 ⟨rfl, n2, rfl⟩
      clear hq
      go_wp2_with fail
      have hm := made_any neg (prodN U') (prodN D') ((w1.drewN n1).drewN n2) (by omega) (by omega) p1d
      rw [World.drewN_drewN] at hm
      go_fit hm
      rintro e w3 ⟨rfl, hb3⟩
      have hX : Cel w3 w.heap.size 23 #[.int .i64 0, .int .i64 0] := (HY.out.below HY.out.lt (below_drewN' w1 (n1 + n2))).below (by simpa using HY.out.lt) hb3
      have HBB := Lib.hid ((below_drewN HB.out (n1 + n2)).trans (hb3.mono (by have := HB.out.size; simp; omega)))
      have r0 := hX.cell 0 (.int .i64 0) rfl
      have r1 := hX.cell 1 (.int .i64 0) rfl
      have f0 := hX.frozen 0
      have f1 := hX.frozen 1
      have HQ := Lib.hid (show (fit (sgn neg ((prodN U' : Rat) / (prodN D' : Rat)))) = fit (sgn neg (val U D)) by rw [← HV.out]; rfl)
      rw [HQ.out]
      obtain ⟨r, hr⟩ : ∃ r, fit (sgn neg (val U D)) = r := ⟨_, rfl⟩
      rw [hr]
      have k5 := hX.set2 (.int .i64 r.n) (.int .i64 r.d)
      have s0 := k5.cell 0 (.int .i64 r.n) rfl
      have s1 := k5.cell 1 (.int .i64 r.d) rfl
      have HRR := Lib.hid hr
      clear hm hb3 hX k5 hr
      go_wp2
      exact bodyPost_ret (v := .tuple #[.agg #[.int .i64 r.n, .int .i64 r.d], .int .i64 r.e]) (by simp [results, Tryd.results113, go_sem, s0, s1]) rfl
        ⟨by rw [HRR.out] <;> rfl, (HBB.out.setCell (p := ⟨w.heap.size, 0, none⟩) hbase _).setCell (p := ⟨w.heap.size, 1, none⟩) hbase _⟩
    · have hq := rproduct_no (.slice A4 D'.length c4) D' 1048576 (w1.drewN n1) (S2.out.drewN n1) O2.out (by decide) (by decide) h2
      go_fit hq
      rintro e w2 ⟨rfl, n2, rfl⟩
      clear hq
      have HF := Lib.hid (HR.out.fit_no neg (by rw [prodN_filter, prodN_filter]; exact fun h => h2 h.2))
      have hX : Cel ((w1.drewN n1).drewN n2) w.heap.size 23 #[.int .i64 0, .int .i64 0] := (HY.out.below HY.out.lt (below_drewN' w1 n1)).below (by simpa using HY.out.lt) (below_drewN' _ n2)
      rw [World.drewN_drewN] at hX
      have HBB := Lib.hid (below_drewN HB.out (n1 + n2))
      have r0 := hX.cell 0 (.int .i64 0) rfl
      have r1 := hX.cell 1 (.int .i64 0) rfl
      have f0 := hX.frozen 0
      have f1 := hX.frozen 1
      have k5 := hX.set2 (.int .i64 0) (.int .i64 0)
      have s0 := k5.cell 0 (.int .i64 0) rfl
      have s1 := k5.cell 1 (.int .i64 0) rfl
      clear hX k5
      go_wp2
      exact bodyPost_ret (v := .tuple #[.agg #[.int .i64 0, .int .i64 0], .int .i64 6]) (by simp [results, Tryd.results113, go_sem, s0, s1]) rfl
        ⟨by rw [HF.out] <;> rfl, (HBB.out.setCell (p := ⟨w.heap.size, 0, none⟩) hbase _).setCell (p := ⟨w.heap.size, 1, none⟩) hbase _⟩
  · go_fit (rproduct_no _ U' 1099511627776 w1 S1.out O1.out (by decide) (by decide) h1)
    rintro e w2 ⟨rfl, n1, rfl⟩
    go_wp2_with fail
    refine ((rproduct_any (.slice A4 D'.length c4) D' 1048576 (w1.drewN n1) (S2.out.drewN n1) O2.out (by decide) (by decide)).mono (R' := fun e w' => (∃ m b, e = .returned (.tuple #[.int .u64 m, .bool b])) ∧ ∃ n, w' = (w1.drewN n1).drewN n) (fun e w' h => ⟨h.1.elim (fun h => ⟨_, _, h.2⟩) (fun h => ⟨_, _, h.2⟩), h.2⟩)).mono ?_
    rintro e w2 ⟨⟨m, b, rfl⟩, n2, rfl⟩
    have HF := Lib.hid (HR.out.fit_no neg (by rw [prodN_filter, prodN_filter]; exact fun h => h1 h.1))
    have hX : Cel ((w1.drewN n1).drewN n2) w.heap.size 23 #[.int .i64 0, .int .i64 0] := (HY.out.below HY.out.lt (below_drewN' w1 n1)).below (by simpa using HY.out.lt) (below_drewN' _ n2)
    rw [World.drewN_drewN] at hX
    have HBB := Lib.hid (below_drewN HB.out (n1 + n2))
    have r0 := hX.cell 0 (.int .i64 0) rfl
    have r1 := hX.cell 1 (.int .i64 0) rfl
    have f0 := hX.frozen 0
    have f1 := hX.frozen 1
    have k5 := hX.set2 (.int .i64 0) (.int .i64 0)
    have s0 := k5.cell 0 (.int .i64 0) rfl
    have s1 := k5.cell 1 (.int .i64 0) rfl
    clear hX k5
    go_wp2
    exact bodyPost_ret (v := .tuple #[.agg #[.int .i64 0, .int .i64 0], .int .i64 6]) (by simp [results, Tryd.results113, go_sem, s0, s1]) rfl
      ⟨by rw [HF.out] <;> rfl, (HBB.out.setCell (p := ⟨w.heap.size, 0, none⟩) hbase _).setCell (p := ⟨w.heap.size, 1, none⟩) hbase _⟩
end Go.Proofs.YtmibpncmebhbjaaDoor
