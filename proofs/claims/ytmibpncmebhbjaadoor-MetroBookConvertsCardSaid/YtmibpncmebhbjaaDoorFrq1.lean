/- Fractions whose rows may lie below their box: cancel, value. Printed by genfrq1.py. -/
import Derived.Test.YtmibpncmebhbjaaDoorFrac3
import Derived.Test.YtmibpncmebhbjaaDoorP9
namespace Go.Proofs.YtmibpncmebhbjaaDoor
open Go Go.RowKit Go.Shelf
attribute [local go_sem] Oper.semAt_some rrV

/-- A fraction in memory: its box Bf and its rows lie from base on; its rows are the call's own, from base on, in two blocks. -/
def FrQ (w : World) (base Bf : Nat) (neg : Bool) (U D : List Nat) : Prop :=
  ∃ sN sD, Cel w Bf 150 #[.bool neg, sN, sD] ∧ base ≤ Bf ∧ w.ownsRow base 117 1 sN U.length (u64s U) ∧ w.ownsRow base 117 1 sD D.length (u64s D) ∧ (∀ g, sN.ownBlock = some g → sD.ownBlock ≠ some g)
theorem FrQ.below {w w' : World} {base Bf : Nat} {neg : Bool} {U D : List Nat} (h : FrQ w base Bf neg U D) (hb : Below w.heap.size w w') : FrQ w' base Bf neg U D := by
  obtain ⟨sN, sD, h1, h2, h3, h4, h5⟩ := h
  exact ⟨sN, sD, h1.below h1.lt hb, h2, own_below h3 hb, own_below h4 hb, h5⟩
theorem own_notF {w : World} {base Bf : Nat} {v : Value} {n : Nat} {xs : List Value} {cs : Array Value} (h : w.ownsRow base 117 1 v n xs) (hc : Cel w Bf 150 cs) : v.ownBlock ≠ some Bf := fun e => by
  obtain ⟨C, hC'⟩ := own_typed h e
  rw [show w.heap[Bf]? = _ from hc] at hC'
  cases hC'
def CancPostQ (U D : List Nat) (base Bf : Nat) (neg : Bool) (w : World) (e : Ending) (w' : World) : Prop :=
  e = .returned (.tuple #[]) ∧ ∃ U' D', FrQ w' base Bf neg U' D' ∧ U'.length = U.length ∧ D'.length = D.length ∧ Ones U' ∧ Ones D' ∧ Red (strike U') (strike D') (val U D) ∧ Below base w w' ∧ KeptU w w'

set_option maxRecDepth 100000 in
set_option maxHeartbeats 1000000 in
theorem cancelQ_any (base Bf : Nat) (neg : Bool) (U D : List Nat) (w : World) (h : FrQ w base Bf neg U D) (hU : Ones U) (hD : Ones D) :
    Calls Tryd.prog 130 #[.pointer (some ⟨Bf, 0, none⟩)] w (CancPostQ U D base Bf neg w) := by
  obtain ⟨sN, sD, hC, hB, h1, h2, hdis⟩ := h
  obtain ⟨A3, c3, rfl, hc3, hm3, f3⟩ := own_slice h1
  obtain ⟨A4, c4, rfl, hc4, hm4, f4⟩ := own_slice h2
  have q1 := hC.cell 1 _ rfl
  have q2 := hC.cell 2 _ rfl
  have hst := Canc.start hU hD
  have hlw := hC.lt
  have hne : ∀ g g', A3 = some ⟨g, 0, none⟩ → A4 = some ⟨g', 0, none⟩ → g ≠ g' := by
    intro g g' e3 e4 e
    subst e3; subst e4; subst e
    exact hdis g rfl rfl
  have HDIS := Lib.hid hdis
  clear hdis
  go_enter Tryd.func130, Tryd.ntmps130
  go_wp2
  go_quiet (fail)
  have hq1 : (w.drewN nq).cell? ⟨Bf, 1, none⟩ = w.cell? ⟨Bf, 1, none⟩ := by simp
  have h1' := own_drewN h1 nq
  have h2' := own_drewN h2 nq
  have hC' : Cel (w.drewN nq) Bf 150 #[.bool neg, .slice A3 U.length c3, .slice A4 D.length c4] := hC.below hC.lt (below_drewN' w nq)
  have hb0 : Below base w (w.drewN nq) := below_drewN (Below.refl _ _) nq
  have hku : Hid (KeptU w (w.drewN nq)) := KeptU.below (below_drewN' w nq)
  have hsz : (w.drewN nq).heap.size = w.heap.size := by simp
  clear q1 q2 hq1 h1 h2 hC
  obtain ⟨V, hV⟩ : ∃ V, w.drewN nq = V := ⟨_, rfl⟩
  rw [hV] at h1' h2' hC' hb0 hku ⊢
  clear hV hsz
  go_wp2
  go_loopw [4] (fun i wr => ∃ (k : Nat) (U' D' : List Nat), k ≤ U.length ∧ i = .int .i64 k ∧ wr.ownsRow base 117 1 (.slice A3 U.length c3) U.length (u64s U') ∧ wr.ownsRow base 117 1 (.slice A4 D.length c4) D.length (u64s D') ∧
      Canc U D U' D' k 0 ∧ Below base w wr ∧ Hid (KeptU w wr) ∧ Cel wr Bf 150 #[.bool neg, .slice A3 U.length c3, .slice A4 D.length c4]) (fun i _ => U.length - (intOf i).toNat)
  case atStart => exact ⟨0, U, D, by omega, rfl, h1', h2', hst, hb0, hku, hC'⟩
  case round =>
    clear h1' h2' hst hb0 hC' hku
    obtain ⟨k, U', D', hk, rfl, hown3, hown4, hst, hbw, hku, hres⟩ := hrel
    by_cases hlt : k < U.length
    · go_wp2
      go_loopw [5] (fun j wr => ∃ (m : Nat) (U' D' : List Nat), m ≤ D.length ∧ j = .int .i64 m ∧ wr.ownsRow base 117 1 (.slice A3 U.length c3) U.length (u64s U') ∧ wr.ownsRow base 117 1 (.slice A4 D.length c4) D.length (u64s D') ∧
          Canc U D U' D' k m ∧ Below base w wr ∧ Hid (KeptU w wr) ∧ Cel wr Bf 150 #[.bool neg, .slice A3 U.length c3, .slice A4 D.length c4]) (fun j _ => D.length - (intOf j).toNat)
      case atStart => exact ⟨0, U', D', by omega, rfl, hown3, hown4, hst, hbw, hku, hres⟩
      case round =>
        clear hown3 hown4 hst hbw hku hres
        obtain ⟨m, U', D', hm, rfl, hown3, hown4, hst, hbw, hku, hres⟩ := hrel
        by_cases hlm : m < D.length
        · obtain ⟨g3, rfl, hg3, hg3'⟩ := f3 (by omega)
          obtain ⟨g4, rfl, hg4, hg4'⟩ := f4 (by omega)
          have hb3 : ¬ g3 = Bf := fun e => own_notF hown3 hres (by simp [Value.ownBlock, e])
          have hb4 : ¬ g4 = Bf := fun e => own_notF hown4 hres (by simp [Value.ownBlock, e])
          have hne1 : ¬ g3 = g4 := hne g3 g4 rfl rfl
          have hne' : ¬ g4 = g3 := fun e => hne1 e.symm
          have hkU : k < U'.length := by rw [hst.lenU]; exact hlt
          have hmD : m < D'.length := by rw [hst.lenD]; exact hlm
          have hcu : wr.cell? ⟨g3, k, none⟩ = some (.int .u64 (U'[k] : Int)) := (hown3.cellAt k (by omega)).trans (u64s_get hkU)
          have hcd : wr.cell? ⟨g4, m, none⟩ = some (.int .u64 (D'[m] : Int)) := (hown4.cellAt m (by omega)).trans (u64s_get hmD)
          have hfu := hown3.frozenAt k
          have hfd := hown4.frozenAt m
          have bu := hst.onesU.get hkU
          have bd := hst.onesD.get hmD
          obtain ⟨g, hg⟩ : ∃ g, g = Nat.gcd U'[k] D'[m] := ⟨_, rfl⟩
          have hg1 : 0 < g := by rw [hg]; exact Nat.gcd_pos_of_pos_left _ (by omega)
          have HCom : Hid (∀ W : World, Calls Tryd.prog 91 #[.int .u64 (U'[k] : Int), .int .u64 (D'[m] : Int)] W fun e w' => e = .returned (.int .u64 (g : Int)) ∧ ∃ n, w' = W.drewN n) :=
            fun W => by rw [hg]; exact gcd_any _ _ W bu.2 bd.2
          have HST := Lib.hid (hst.step hkU hmD g hg)
          clear hg
          generalize hu : U'[k] = x at *
          generalize hv : D'[m] = y at *
          have HU := Lib.hid hu
          have HV := Lib.hid hv
          clear hu hv hst
          have k1 : (0 : Int) ≤ (k : Int) := by omega
          have k2 : (k : Int) < (U.length : Int) := by omega
          have k3 : (0 : Int) ≤ (m : Int) := by omega
          have k4 : (m : Int) < (D.length : Int) := by omega
          have g0 : ((g : Int) == 0) = false := by rw [beq_eq_false_iff_ne]; omega
          go_wp2
          go_quiet ((go_at_call 91; exact Calls.quiet_of (HCom.out _)))
          go_wp2
          go_region
          have hs3 := (hown3.stored k (.int .u64 ((x / g : Nat) : Int))).1
          rw [u64s_set] at hs3
          have n3 := ownsRow_setCell_other (own_drewN hs3 (nq + 1)) (a := ⟨g4, m, none⟩) (by simpa [Value.ownBlock] using hne1) (.int .u64 ((y / g : Nat) : Int))
          go_wp2
          go_roundw
          case rel =>
            refine ⟨m + 1, U'.set k (x / g), D'.set m (y / g), by omega, by go_num, ?_, ?_, HST.out, ?_, ?_, ?_⟩
            all_goals rw [wrap_div x g bu.2, wrap_div y g bd.2]
            · exact n3
            · exact (own_stored (ownsRow_setCell_other (own_drewN hown4 (nq + 1)) (a := ⟨g3, k, none⟩) (by simpa [Value.ownBlock] using hne') (.int .u64 ((x / g : Nat) : Int))) m (y / g))
            · exact ((below_drewN hbw (nq + 1)).setCell (p := ⟨g3, k, none⟩) hg3 _).setCell (p := ⟨g4, m, none⟩) hg4 _
            · exact ((show KeptU w (wr.drewN (nq + 1)) from hku.out.trans (KeptU.below (below_drewN' wr (nq + 1)))).set (own_drewN hown3 (nq + 1)) k _).set (ownsRow_setCell_other (own_drewN hown4 (nq + 1)) (a := ⟨g3, k, none⟩) (by simpa [Value.ownBlock] using hne') _) m _
            · exact (show Cel (wr.drewN (nq + 1)) _ _ _ from hres.below hres.lt (below_drewN' wr (nq + 1))).other (by simp; omega) _ |>.other (by simp; omega) _
          case measure => simp [intOf]; omega
        · have : m = D.length := by omega
          subst this
          go_wp2
          go_roundw
          case rel => exact ⟨k + 1, U', D', by omega, by go_num, hown3, hown4, (by rw [← hst.lenD] at hst; exact hst.next), hbw, hku, hres⟩
          case measure => simp [intOf]; omega
    · have : k = U.length := by omega
      subst this
      have HST := Lib.hid hst
      clear hst
      go_wp2
      go_end0
      refine ⟨rfl, U', D', ⟨_, _, hres, hB, by rw [HST.out.lenU]; exact hown3, by rw [HST.out.lenD]; exact hown4, HDIS.out⟩, HST.out.lenU, HST.out.lenD, HST.out.onesU, HST.out.onesD, ?_, hbw, hku.out⟩
      have h := HST.out; have e := h.lenU; rw [← e] at h; exact h.red

set_option maxRecDepth 100000 in
set_option maxHeartbeats 1000000 in
theorem fvalueQ_any (base Bf : Nat) (neg : Bool) (U D : List Nat) (w : World) (h : FrQ w base Bf neg U D) (hbase : base ≤ w.heap.size) (hU : Ones U) (hD : Ones D) :
    Calls Tryd.prog 113 #[.pointer (some ⟨Bf, 0, none⟩)] w fun e w' => e = .returned (rrV (fit (sgn neg (val U D)))) ∧ Below base w w' := by
  have hc := cancelQ_any base Bf neg U D (w.alloc (.cells #[.int .i64 0, .int .i64 0] 23)) (h.below (below_alloc' _ _)) hU hD
  have hb0 : Below base w (w.alloc (.cells #[.int .i64 0, .int .i64 0] 23)) := (Below.refl _ _).alloc hbase _
  have HC := Lib.hid hc
  clear hc h hU hD
  go_enter Tryd.func113, Tryd.ntmps113
  go_wp2_with fail
  go_fit HC.out
  rintro e w1 ⟨rfl, U', D', h1, hl1, hl2, o1, o2, hr, hb1, hk⟩
  obtain ⟨sN, sD, hC, hlt, g1, g2, _⟩ := h1
  obtain ⟨A3, c3, rfl, g1⟩ := own_shape g1
  obtain ⟨A4, c4, rfl, g2⟩ := own_shape g2
  have S1 := Lib.hid (Sl.of_own g1)
  have S2 := Lib.hid (Sl.of_own g2)
  have HY := Lib.hid (hk _ _ _ (Cel.new w 23 #[.int .i64 0, .int .i64 0]) (by decide))
  have HB := Lib.hid (hb0.trans hb1)
  have q0 := hC.cell 0 _ rfl
  have q1 := hC.cell 1 _ rfl
  have q2 := hC.cell 2 _ rfl
  have HV := Lib.hid (show val U' D' = val U D by rw [← hr.val]; unfold val; rw [prodN_filter, prodN_filter])
  have HR := Lib.hid hr
  have O1 := Lib.hid o1
  have O2 := Lib.hid o2
  have p1d := o2.pos
  have HCE := Lib.hid hC
  clear HC hb0 hb1 hk hC g1 g2 hl1 hl2 hr o1 o2
  go_wp2_with fail
  by_cases h1 : prodN U' ≤ 1099511627776
  · go_fit (rproduct_yes _ U' 1099511627776 w1 S1.out O1.out (by decide) (by decide) h1)
    rintro e w2 ⟨rfl, n1, rfl⟩
    go_wp2_with fail
    by_cases h2 : prodN D' ≤ 1048576
    · have hq := rproduct_yes (.slice A4 D'.length c4) D' 1048576 (w1.drewN n1) (S2.out.drewN n1) O2.out (by decide) (by decide) h2
      go_fit hq
      rintro e w2 ⟨rfl, n2, rfl⟩
      clear hq
      go_wp2_with fail
      have hm := made_any neg (prodN U') (prodN D') ((w1.drewN n1).drewN n2) (by omega) (by omega) p1d
      rw [World.drewN_drewN] at hm
      go_fit hm
      rintro e w3 ⟨rfl, hb3⟩
      have hX : Cel w3 w.heap.size 23 #[.int .i64 0, .int .i64 0] := (HY.out.below HY.out.lt (below_drewN' w1 (n1 + n2))).below (by simpa using HY.out.lt) hb3
      have HBB := Lib.hid ((below_drewN HB.out (n1 + n2)).trans (hb3.mono (by have := HB.out.size; simp; omega)))
      have r0 := hX.cell 0 (.int .i64 0) rfl
      have r1 := hX.cell 1 (.int .i64 0) rfl
      have f0 := hX.frozen 0
      have f1 := hX.frozen 1
      have HQ := Lib.hid (show (fit (sgn neg ((prodN U' : Rat) / (prodN D' : Rat)))) = fit (sgn neg (val U D)) by rw [← HV.out]; rfl)
      rw [HQ.out]
      obtain ⟨r, hr⟩ : ∃ r, fit (sgn neg (val U D)) = r := ⟨_, rfl⟩
      rw [hr]
      have k5 := hX.set2 (.int .i64 r.n) (.int .i64 r.d)
      have s0 := k5.cell 0 (.int .i64 r.n) rfl
      have s1 := k5.cell 1 (.int .i64 r.d) rfl
      have HRR := Lib.hid hr
      clear hm hb3 hX k5 hr
      go_wp2
      exact bodyPost_ret (v := .tuple #[.agg #[.int .i64 r.n, .int .i64 r.d], .int .i64 r.e]) (by simp [results, Tryd.results113, go_sem, s0, s1]) rfl
        ⟨by rw [HRR.out] <;> rfl, (HBB.out.setCell (p := ⟨w.heap.size, 0, none⟩) hbase _).setCell (p := ⟨w.heap.size, 1, none⟩) hbase _⟩
    · have hq := rproduct_no (.slice A4 D'.length c4) D' 1048576 (w1.drewN n1) (S2.out.drewN n1) O2.out (by decide) (by decide) h2
      go_fit hq
      rintro e w2 ⟨rfl, n2, rfl⟩
      clear hq
      have HF := Lib.hid (HR.out.fit_no neg (by rw [prodN_filter, prodN_filter]; exact fun h => h2 h.2))
      have hX : Cel ((w1.drewN n1).drewN n2) w.heap.size 23 #[.int .i64 0, .int .i64 0] := (HY.out.below HY.out.lt (below_drewN' w1 n1)).below (by simpa using HY.out.lt) (below_drewN' _ n2)
      rw [World.drewN_drewN] at hX
      have HBB := Lib.hid (below_drewN HB.out (n1 + n2))
      have r0 := hX.cell 0 (.int .i64 0) rfl
      have r1 := hX.cell 1 (.int .i64 0) rfl
      have f0 := hX.frozen 0
      have f1 := hX.frozen 1
      have k5 := hX.set2 (.int .i64 0) (.int .i64 0)
      have s0 := k5.cell 0 (.int .i64 0) rfl
      have s1 := k5.cell 1 (.int .i64 0) rfl
      clear hX k5
      go_wp2
      exact bodyPost_ret (v := .tuple #[.agg #[.int .i64 0, .int .i64 0], .int .i64 6]) (by simp [results, Tryd.results113, go_sem, s0, s1]) rfl
        ⟨by rw [HF.out] <;> rfl, (HBB.out.setCell (p := ⟨w.heap.size, 0, none⟩) hbase _).setCell (p := ⟨w.heap.size, 1, none⟩) hbase _⟩
  · go_fit (rproduct_no _ U' 1099511627776 w1 S1.out O1.out (by decide) (by decide) h1)
    rintro e w2 ⟨rfl, n1, rfl⟩
    go_wp2_with fail
    refine ((rproduct_any (.slice A4 D'.length c4) D' 1048576 (w1.drewN n1) (S2.out.drewN n1) O2.out (by decide) (by decide)).mono (R' := fun e w' => (∃ m b, e = .returned (.tuple #[.int .u64 m, .bool b])) ∧ ∃ n, w' = (w1.drewN n1).drewN n) (fun e w' h => ⟨h.1.elim (fun h => ⟨_, _, h.2⟩) (fun h => ⟨_, _, h.2⟩), h.2⟩)).mono ?_
    rintro e w2 ⟨⟨m, b, rfl⟩, n2, rfl⟩
    have HF := Lib.hid (HR.out.fit_no neg (by rw [prodN_filter, prodN_filter]; exact fun h => h1 h.1))
    have hX : Cel ((w1.drewN n1).drewN n2) w.heap.size 23 #[.int .i64 0, .int .i64 0] := (HY.out.below HY.out.lt (below_drewN' w1 n1)).below (by simpa using HY.out.lt) (below_drewN' _ n2)
    rw [World.drewN_drewN] at hX
    have HBB := Lib.hid (below_drewN HB.out (n1 + n2))
    have r0 := hX.cell 0 (.int .i64 0) rfl
    have r1 := hX.cell 1 (.int .i64 0) rfl
    have f0 := hX.frozen 0
    have f1 := hX.frozen 1
    have k5 := hX.set2 (.int .i64 0) (.int .i64 0)
    have s0 := k5.cell 0 (.int .i64 0) rfl
    have s1 := k5.cell 1 (.int .i64 0) rfl
    clear hX k5
    go_wp2
    exact bodyPost_ret (v := .tuple #[.agg #[.int .i64 0, .int .i64 0], .int .i64 6]) (by simp [results, Tryd.results113, go_sem, s0, s1]) rfl
      ⟨by rw [HF.out] <;> rfl, (HBB.out.setCell (p := ⟨w.heap.size, 0, none⟩) hbase _).setCell (p := ⟨w.heap.size, 1, none⟩) hbase _⟩
end Go.Proofs.YtmibpncmebhbjaaDoor
