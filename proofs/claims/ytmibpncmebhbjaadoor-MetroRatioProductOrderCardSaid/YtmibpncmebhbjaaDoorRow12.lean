/- MetroRatioProductOrder: the walk. -/
import Derived.Test.YtmibpncmebhbjaaDoorP10
import Derived.Test.YtmibpncmebhbjaaDoorPOr1
import Derived.Test.YtmibpncmebhbjaaDoorSlc
import Derived.Test.YtmibpncmebhbjaaDoorRow10
import Derived.Test.YtmibpncmebhbjaaDoorMul3
import Derived.Deep.RegionHeld3
namespace Go.Proofs.YtmibpncmebhbjaaDoor
open Go Go.RowKit Go.Shelf
attribute [local go_sem] Oper.semAt_some rrV

theorem rsV_reverse (l : List (Int × Int)) (r : Int × Int) : rsV (l ++ [r]).reverse = [.int .i64 r.1, .int .i64 r.2] ++ rsV l.reverse := by
  rw [List.reverse_append]; rfl
theorem rsV_take (l : List (Int × Int)) (c : Nat) : rsV (l.take c) = (rsV l).take (c * 2) := by
  induction l generalizing c with
  | nil => simp [rsV]
  | cons r l ih =>
    cases c with
    | zero => simp [rsV]
    | succ c =>
      have e : rsV (r :: l) = .int .i64 r.1 :: .int .i64 r.2 :: rsV l := rfl
      have e2 : rsV ((r :: l).take (c + 1)) = .int .i64 r.1 :: .int .i64 r.2 :: rsV (l.take c) := rfl
      rw [e, e2, ih, show (c + 1) * 2 = c * 2 + 1 + 1 from by omega]
      rfl
theorem rsV_drop (l : List (Int × Int)) (c : Nat) : rsV (l.drop c) = (rsV l).drop (c * 2) := by
  induction l generalizing c with
  | nil => simp [rsV]
  | cons r l ih =>
    cases c with
    | zero => simp
    | succ c =>
      have e : rsV (r :: l) = .int .i64 r.1 :: .int .i64 r.2 :: rsV l := rfl
      rw [e, List.drop_succ_cons, ih, show (c + 1) * 2 = c * 2 + 1 + 1 from by omega]
      rfl

set_option maxRecDepth 100000 in
set_option maxHeartbeats 4000000 in
theorem ratioProductOrder_any (l : List (Int × Int)) (v : Value) (cut : Int) (w : World) (hz : Zw w) (hv : Sl w 2 v (rsV l)) (hbd : BdL l) (hcut : Bd cut) :
    Calls Tryd.prog 13 #[v, .int .i64 cut] w fun e w' => e = .returned (.bool true) ∧ Below w.heap.size w w' := by
  obtain ⟨A, n, c, rfl, hlc, hcm, hcM, hcl⟩ := hv.open2 (by decide)
  rw [rsV_length] at hlc
  obtain rfl : n = l.length := by omega
  clear hlc
  have HC := Lib.hid hcl
  have HBD := Lib.hid hbd
  have HZ := Lib.hid hz
  have C9 := Lib.hid (fun (w' : World) (hb : Below w.heap.size w w') => works_any w' (hz.below hb))
  have HLR := Lib.hid (fun (w' : World) (hb : Below w.heap.size w w') (r : Int × Int) (hr : r ∈ l) => lawratio_any r.1 r.2 w' (hz.below hb) (hbd r hr).1.1 (hbd r hr).1.2 (hbd r hr).2.1 (hbd r hr).2.2)
  clear hv hcl hbd hz
  go_enter Tryd.func13, Tryd.ntmps13
  go_wp2
  go_loopw [5, 6, 7] (fun x t i wr => ∃ (k n : Nat), i = .int .i64 k ∧ k ≤ l.length ∧ k ≤ 64 ∧ n ≤ k ∧ wr.ownsRow w.heap.size 23 2 x n (rsV (okRs (l.take k))) ∧ wr.ownsRow w.heap.size 23 2 t n (rsV (okRs (l.take k)).reverse) ∧ (∀ g, x.ownBlock = some g → t.ownBlock ≠ some g) ∧ Below w.heap.size w wr) (fun _ _ i _ => l.length - (intOf i).toNat)
  case atStart => exact ⟨0, 0, rfl, by omega, by omega, by omega, World.ownsRow_nil _ _ _ _, World.ownsRow_nil _ _ _ _, fun g h => by simp [Value.ownBlock] at h, Below.refl _ _⟩
  case round =>
    obtain ⟨k, n, rfl, hk, hk64, hnk, hx, ht, hdis, hB⟩ := hrel
    obtain ⟨A1, c1, rfl, hx⟩ := own_shape hx
    obtain ⟨A2, c2, rfl, ht⟩ := own_shape ht
    have HX := Lib.hid hx
    have HT := Lib.hid ht
    have HD := Lib.hid hdis
    have HB := Lib.hid hB
    by_cases hgo : k < l.length ∧ k < 64
    · obtain ⟨hlt, h64⟩ := hgo
      have d2 : decide ((k : Int) < 64) = true := decide_eq_true (by omega)
      obtain ⟨b, o, e, _, hce⟩ := HC.out (by omega)
      subst e
      obtain ⟨g0, g1⟩ := rsV_get hlt
      have g0 := hce _ _ g0
      have g1 := hce _ _ g1
      rw [← Nat.add_assoc] at g1
      have HE := Lib.hid (fun w' (hb : Below w.heap.size w w') => And.intro (below_cell hb g0) (below_cell hb g1))
      have HR := Lib.hid (fun w' hb => HLR.out w' hb l[k] (List.getElem_mem _))
      have HYES := Lib.hid (fun h => okRs_yes hlt h)
      have HNO := Lib.hid (fun h => okRs_no hlt h)
      obtain ⟨e0, e1⟩ := HE.out wr hB
      have hsz := hB.size
      clear hce g0 g1 hx ht hdis hB
      generalize l[k] = r at *
      obtain ⟨N, D⟩ := r
      simp only at HE HR HYES HNO e0 e1
      have k1 : (0 : Int) ≤ (k : Int) := by omega
      have k2 : (k : Int) < (l.length : Int) := by omega
      generalize ratioF N D = q at *
      obtain ⟨qN, qD, qE⟩ := q
      simp only at HR HYES HNO
      generalize hqe : (qE == 0) = is at *
      clear hqe
      go_upto_region 5 with fail
      go_cut [8, 9] (fun t8 t9 wx => ∃ (Wx : World) (B : Nat), Wx = wx ∧ t8 = .pointer (some ⟨B, 0, none⟩) ∧ t9 = .bool is ∧ Cel wx B 23 #[.int .i64 qN, .int .i64 qD] ∧ wr.heap.size ≤ B ∧ Below wr.heap.size wr wx)
      case first =>
        go_region_held3 (fun w' => w'.cell? ⟨b, o + k * 2, none⟩ = some (.int .i64 N) ∧ w'.cell? ⟨b, o + k * 2 + 1, none⟩ = some (.int .i64 D)) (first | exact HE.out _ hB2 | exact HE.out _ (by repeat (first | exact hB2 | exact HB.out | refine below_drew ?_ | refine Below.setCell ?_ (by first | omega | (simp; done) | (simp; omega)) _ | refine Below.alloc ?_ (by first | omega | (simp; done) | (simp; omega)) _)) | go_keep)
          (first
          | (go_at_call 46; refine (HR.out _ (by repeat (first | exact HB.out | refine below_drew ?_ | refine Below.alloc ?_ (by first | omega | (simp; done) | (simp; omega)) _))).mono ?_; rintro e w1 ⟨rfl, hb1⟩; have hB2s := hb1.size; have hB2 := (show Below w.heap.size w w1 from Below.trans (by repeat (first | exact HB.out | refine below_drew ?_ | refine Below.alloc ?_ (by first | omega | (simp; done) | (simp; omega)) _)) (hb1.mono (by simp; omega))); have hB2z := hB2.size; have HBW : Hid (Below wr.heap.size wr w1) := (by first | exact below_undrew (show Below wr.heap.size wr.drew w1 from hb1) | exact below_then (below_alloc' wr (.cells #[.int .i64 0, .int .i64 0] 23)) (below_undrew (show Below (wr.alloc (.cells #[.int .i64 0, .int .i64 0] 23)).heap.size (wr.alloc (.cells #[.int .i64 0, .int .i64 0] 23)).drew w1 from hb1))); (first | (have hy := (show Cel ((wr.alloc (.cells #[.int .i64 0, .int .i64 0] 23)).drew) wr.heap.size 23 #[.int .i64 0, .int .i64 0] from Cel.new wr _ _).below (by simp) hb1; have z0 := hy.cell 0 (.int .i64 0) rfl; have z1 := hy.cell 1 (.int .i64 0) rfl; have y0 := hy.frozen 0; have y1 := hy.frozen 1; have HYY := Lib.hid hy; clear hy) | skip)))
        all_goals (
          go_wp2
          go_meet
          first
          | exact ⟨_, w1.heap.size, rfl, rfl, rfl, Cel.new w1 _ _, by have := HBW.out.size; omega, HBW.out.alloc HBW.out.size _⟩
          | exact ⟨_, wr.heap.size, rfl, rfl, rfl, HYY.out.set2 _ _, Nat.le_refl _, (HBW.out.setCell (p := ⟨wr.heap.size, 0, none⟩) (Nat.le_refl _) _).setCell (p := ⟨wr.heap.size, 1, none⟩) (Nat.le_refl _) _⟩)
      case rest =>
        obtain ⟨V, B, rfl, rfl, rfl, hY, hBge, hBV⟩ := hcut
        have HX1 := Lib.hid (own_below HX.out hBV)
        have HLT := Lib.hid (And.intro (fun g (hg : (Value.slice A1 n c1).ownBlock = some g) => own_lt HX.out hg) True.intro)
        have HT1 := Lib.hid (own_below HT.out hBV)
        have HB1 := Lib.hid (HB.out.trans (hBV.mono hsz))
        have y0 := hY.cell 0 (.int .i64 qN) rfl
        have y1 := hY.cell 1 (.int .i64 qD) rfl
        have HY := Lib.hid hY
        have hVs := hBV.size
        clear hY hBV HX HT HE HR e0 e1
        cases is with
        | false =>
          have HS := Lib.hid (HNO.out rfl)
          go_wp2
          go_roundw
          case rel => exact ⟨k + 1, n, by go_num, hlt, by omega, by omega, by rw [HS.out]; exact HX1.out, by rw [HS.out]; exact HT1.out, HD.out, HB1.out⟩
          case measure => simp [intOf]; omega
        | true =>
          have HS := Lib.hid (HYES.out rfl)
          have HA1 := Lib.hid (HX1.out.alloc (.cells #[.int .i64 qN, .int .i64 qD] 23))
          have HS1 := Lib.hid (Sl.new (s := 2) V 23 1 1 #[.int .i64 qN, .int .i64 qD] rfl (Nat.le_refl _) (by decide))
          have HXB : Hid (∀ g, (Value.slice A1 n c1).ownBlock = some g → g < wr.heap.size) := fun g hg => HLT.out.1 g hg
          have HYV := Lib.hid (HY.out.alloc (.cells #[.int .i64 qN, .int .i64 qD] 23))
          have HTV := Lib.hid (HT1.out.alloc (.cells #[.int .i64 qN, .int .i64 qD] 23))
          have HBV := Lib.hid (HB1.out.alloc HB1.out.size (.cells #[.int .i64 qN, .int .i64 qD] 23))
          go_upto_region 8 with (at_builtin; refine appRat _ _ rfl rfl rfl rfl HA1.out HS1.out (by simp [Value.oneCell']) (N := n + 1) (by simp; omega) (by omega) (by simp; omega) ?_; intro A3 c3 w1 hap)
          have HX2 := Lib.hid hap.own
          have HT2 := Lib.hid (own_keep HTV.out hap.grown (fun g h1 h2 => HD.out g h2 h1))
          have hy2 := HYV.out.kept hap.grown (fun e => by have := HXB.out B e.symm; omega)
          have HB2 := Lib.hid (below_of_own hap.grown HA1.out HBV.out (Nat.le_refl _))
          have z0 := hy2.cell 0 (.int .i64 qN) rfl
          have z1 := hy2.cell 1 (.int .i64 qD) rfl
          have hs2 := HB2.out.size
          have hL := own_lit (base := w.heap.size) (n := 1) (size := 2) (Cel.new w1 23 #[.int .i64 qN, .int .i64 qD]) hs2 rfl (by decide)
          have HL := Lib.hid hL
          have HX3 := Lib.hid (HX2.out.alloc (.cells #[.int .i64 qN, .int .i64 qD] 23))
          have HTS := Lib.hid (Sl.of_own (HT2.out.alloc (.cells #[.int .i64 qN, .int .i64 qD] 23)))
          have HB3 := Lib.hid (HB2.out.alloc hs2 (.cells #[.int .i64 qN, .int .i64 qD] 23))
          have HO2 := Lib.hid (rsV_one (okRs (l.take k)).reverse)
          have HN2 := Lib.hid (show (rsV (okRs (l.take k)).reverse).length = n * 2 from by have := HT2.out.1; simpa using this)
          clear hap hy2 hL y0 y1
          go_wp2_with (at_builtin; refine appRat _ _ rfl rfl rfl rfl HL.out HTS.out HO2.out (N := n + 1) (by rw [HN2.out]; omega) (by omega) (by simp; omega) ?_; intro A4 c4 w2 hap)
          have HX4 := Lib.hid (own_keep HX3.out hap.grown (fun g h1 h2 => by
            have h3 := own_lt HX2.out h1
            have h4 : some w1.heap.size = some g := h2
            injection h4 with h4
            omega))
          have HT4 := Lib.hid hap.own
          have HB4 := Lib.hid (below_of_own hap.grown HL.out HB3.out (Nat.le_refl _))
          have HD4 : Hid (∀ g, (Value.slice A3 (n + 1) c3).ownBlock = some g → (Value.slice A4 (n + 1) c4).ownBlock ≠ some g) := fun g h1 h2 => by
            have h3 := own_lt HX2.out h1
            rcases hap.block with e | e
            · have h4 : some w1.heap.size = some g := (show (Value.slice (some ⟨w1.heap.size, 0, none⟩) 1 1).ownBlock = _ from rfl).symm.trans (e.symm.trans h2)
              injection h4 with h4
              omega
            · rw [e] at h2; simp at h2; omega
          clear hap z0 z1
          go_wp2
          go_roundw
          case rel =>
            refine ⟨k + 1, n + 1, by go_num, hlt, by omega, by omega, ?_, ?_, HD4.out, HB4.out⟩
            · rw [HS.out, rsV_append]; exact HX4.out
            · rw [HS.out, rsV_reverse]; exact HT4.out
          case measure => simp [intOf]; omega
    · have hgo' : k = l.length ∨ (k < l.length ∧ decide ((k : Int) < 64) = false) := by
        rcases Nat.lt_or_ge k l.length with h | h
        · exact .inr ⟨h, decide_eq_false (by omega)⟩
        · exact .inl (by omega)
      have HQ := Lib.hid (okRs_isRs (l.take k))
      generalize hX : okRs (l.take k) = X at *
      have HXX := Lib.hid hX
      clear hX hdis hx ht hgo
      obtain rfl : n = X.length := by have := HX.out.1; rw [rsV_length] at this; omega
      have HBDX := Lib.hid (isRs_bd HQ.out)
      have HF := Lib.hid (prodE_isRs HQ.out (by omega))
      have HFR := Lib.hid (show prodE X.reverse = fit (prodQ X) by rw [prodE_isRs (isRs_sub HQ.out (fun x hx => List.mem_reverse.1 hx)) (by simp; omega), prodQ_reverse])
      have HS1 := Lib.hid (Sl.of_own HX.out)
      have HS2 := Lib.hid (Sl.of_own HT.out)
      have hcx : X.length ≤ c1 := by obtain ⟨_, _, e, h, _, _⟩ := own_slice HX.out; cases e; exact h
      have hbr1 := Int.emod_nonneg cut (show ((X.length : Int) + 1) ≠ 0 by omega)
      have hbr2 := Int.emod_lt_of_pos cut (show (0 : Int) < (X.length : Int) + 1 by omega)
      obtain ⟨m, hm⟩ := Int.eq_ofNat_of_zero_le hbr1
      have HBR := Lib.hid (fun W => bring_any cut ((X.length : Int) + 1) W hcut.1 hcut.2 (by omega) (by omega))
      rw [show bringF cut ((X.length : Int) + 1) = cut % ((X.length : Int) + 1) from if_neg (by omega), hm] at HBR
      have hmx : m ≤ X.length := by omega
      obtain ⟨V1, hV1⟩ : ∃ V1, sliced A1 0 m c1 2 = V1 := ⟨_, rfl⟩
      obtain ⟨V2, hV2⟩ : ∃ V2, sliced A1 m X.length c1 2 = V2 := ⟨_, rfl⟩
      have r1 := rat_to A1 X.length c1 m (by omega)
      have r2 := rat_from A1 X.length c1 m (by omega)
      rw [hV1] at r1
      rw [hV2] at r2
      have HP1 := Lib.hid (show Sl wr 2 V1 (rsV (X.take m)) by rw [← hV1, rsV_take]; exact HS1.out.to hmx)
      have HP2 := Lib.hid (show Sl wr 2 V2 (rsV (X.drop m)) by rw [← hV2, rsV_drop]; exact HS1.out.from hmx)
      have HQ1 := Lib.hid (isRs_sub HQ.out (fun x hx => List.mem_of_mem_take (i := m) hx))
      have HQ2 := Lib.hid (isRs_sub HQ.out (fun x hx => List.mem_of_mem_drop (i := m) hx))
      have HF1 := Lib.hid (prodE_isRs HQ1.out (show (X.take m).length ≤ 64 by simp; omega))
      have HF2 := Lib.hid (prodE_isRs HQ2.out (show (X.drop m).length ≤ 64 by simp; omega))
      have HPP := Lib.hid (prodQ_parts X m)
      have K1 : Hid (∀ w', Below wr.heap.size wr w' → Calls Tryd.prog 60 #[.slice A1 X.length c1] w' fun e w'' => e = .returned (rrV (fit (prodQ X))) ∧ Below w'.heap.size w' w'') := fun w' hb => by
        rw [← HF.out]; exact mProduct_any X _ w' (HZ.out.below (HB.out.trans (hb.mono HB.out.size))) (HS1.out.below hb) HBDX.out
      have K2 : Hid (∀ w', Below wr.heap.size wr w' → Calls Tryd.prog 60 #[.slice A2 X.length c2] w' fun e w'' => e = .returned (rrV (fit (prodQ X))) ∧ Below w'.heap.size w' w'') := fun w' hb => by
        rw [← HFR.out]; exact mProduct_any X.reverse _ w' (HZ.out.below (HB.out.trans (hb.mono HB.out.size))) (HS2.out.below hb) (fun r hr => HBDX.out r (List.mem_reverse.1 hr))
      have K3 : Hid (∀ w', Below wr.heap.size wr w' → Calls Tryd.prog 60 #[V1] w' fun e w'' => e = .returned (rrV (fit (prodQ (X.take m)))) ∧ Below w'.heap.size w' w'') := fun w' hb => by
        rw [← HF1.out]; exact mProduct_any (X.take m) _ w' (HZ.out.below (HB.out.trans (hb.mono HB.out.size))) (HP1.out.below hb) (isRs_bd HQ1.out)
      have K4 : Hid (∀ w', Below wr.heap.size wr w' → Calls Tryd.prog 60 #[V2] w' fun e w'' => e = .returned (rrV (fit (prodQ (X.drop m)))) ∧ Below w'.heap.size w' w'') := fun w' hb => by
        rw [← HF2.out]; exact mProduct_any (X.drop m) _ w' (HZ.out.below (HB.out.trans (hb.mono HB.out.size))) (HP2.out.below hb) (isRs_bd HQ2.out)
      have HXa := Lib.hid (fun h => fit_isR (q := prodQ (X.take m)) h)
      have HXb := Lib.hid (fun h => fit_isR (q := prodQ (X.drop m)) h)
      have KM : Hid (∀ w', Below wr.heap.size wr w' → (fit (prodQ (X.take m))).e = 0 → (fit (prodQ (X.drop m))).e = 0 → Calls Tryd.prog 63 #[.agg #[.int .i64 (fit (prodQ (X.take m))).n, .int .i64 (fit (prodQ (X.take m))).d], .agg #[.int .i64 (fit (prodQ (X.drop m))).n, .int .i64 (fit (prodQ (X.drop m))).d]] w' fun e w'' => e = .returned (rrV (fit (prodQ X))) ∧ Below w'.heap.size w' w'') := fun w' hb h1 h2 => by
        obtain ⟨j1, j2⟩ := HXa.out h1
        obtain ⟨j3, j4⟩ := HXb.out h2
        have b1 := isR_bd j1
        have b2 := isR_bd j3
        have := mul_any _ _ _ _ w' (HZ.out.below (HB.out.trans (hb.mono HB.out.size))) (show Bd (fit (prodQ (X.take m))).n by unfold Bd; omega) (show Bd (fit (prodQ (X.take m))).d by unfold Bd; omega) (show Bd (fit (prodQ (X.drop m))).n by unfold Bd; omega) (show Bd (fit (prodQ (X.drop m))).d by unfold Bd; omega)
        rw [opF_yes j1 j3, mulR, j2, j4, HPP.out] at this
        exact this
      have KW : Hid (∀ w', Below wr.heap.size wr w' → Calls Tryd.prog 27 #[] w' fun e w'' => e = .returned (.bool true) ∧ Below w'.heap.size w' w'') := fun w' hb => C9.out w' (HB.out.trans (hb.mono HB.out.size))
      have hp := fit_err (prodQ X)
      have HB0 := Lib.hid (Below.refl wr.heap.size wr)
      have hXl : X.length ≤ 64 := by omega
      clear hm hV1 hV2 hbr1 hbr2 HXa HXb HF HFR HF1 HF2 HP1 HP2 HS1 HS2 HX HT HD HXX HPP HQ HQ1 HQ2 HBDX hcut
      generalize fit (prodQ X) = p at *
      generalize fit (prodQ (X.take m)) = q at *
      generalize fit (prodQ (X.drop m)) = r at *
      generalize X.length = n at *
      obtain ⟨pN, pD, pE⟩ := p
      obtain ⟨qN, qD, qE⟩ := q
      obtain ⟨rN, rD, rE⟩ := r
      simp only at KM hp
      have hpp : ((pE != 0) = false ∨ ((pE != 0) = true ∧ (pE != 6) = false)) := by
        rcases hp with h | h
        · subst h; exact .inl rfl
        · subst h; exact .inr ⟨rfl, rfl⟩
      clear hp
      have hmI : (0 : Int) ≤ (m : Int) := by omega
      have hmJ : (m : Int) ≤ (n : Int) := by omega
      have hwn : IntKind.i64.wrap ((n : Int) + 1) = (n : Int) + 1 := by rw [IntKind.wrap_i64]; omega
      rcases hgo' with rfl | ⟨hlt, d64⟩
      · go_wp2_with fail
        go_fit (K1.out _ HB0.out)
        rintro e w1 ⟨rfl, hb⟩
        have HB1 := Lib.hid (below_then HB0.out (hb.alloc hb.size (.cells #[.int .i64 pN, .int .i64 pD] 23)))
        have HM1 : Hid (∀ w', Below (w1.alloc (.cells #[.int .i64 pN, .int .i64 pD] 23)).heap.size (w1.alloc (.cells #[.int .i64 pN, .int .i64 pD] 23)) w' → w'.cell? ⟨w1.heap.size, 0, none⟩ = some (.int .i64 pN) ∧ w'.cell? ⟨w1.heap.size, 1, none⟩ = some (.int .i64 pD)) := fun w' h => by
          exact ⟨below_cell h ((Cel.new w1 23 #[.int .i64 pN, .int .i64 pD]).cell 0 _ rfl), below_cell h ((Cel.new w1 23 #[.int .i64 pN, .int .i64 pD]).cell 1 _ rfl)⟩
        clear hb
        obtain ⟨g0, g1⟩ := HM1.out _ (Below.refl _ _)
        go_wp2_with fail
        go_fit (K2.out _ HB1.out)
        rintro e w2 ⟨rfl, hb⟩
        clear g0 g1
        have HB2 := Lib.hid (below_then HB1.out (hb.alloc hb.size (.cells #[.int .i64 pN, .int .i64 pD] 23)))
        have HM2 : Hid (∀ w', Below (w2.alloc (.cells #[.int .i64 pN, .int .i64 pD] 23)).heap.size (w2.alloc (.cells #[.int .i64 pN, .int .i64 pD] 23)) w' → w'.cell? ⟨w1.heap.size, 0, none⟩ = some (.int .i64 pN) ∧ w'.cell? ⟨w1.heap.size, 1, none⟩ = some (.int .i64 pD) ∧ w'.cell? ⟨w2.heap.size, 0, none⟩ = some (.int .i64 pN) ∧ w'.cell? ⟨w2.heap.size, 1, none⟩ = some (.int .i64 pD)) := fun w' h => by
          obtain ⟨q0, q1⟩ := HM1.out w' (below_then (hb.alloc hb.size (.cells #[.int .i64 pN, .int .i64 pD] 23)) h)
          exact ⟨q0, q1, below_cell h ((Cel.new w2 23 #[.int .i64 pN, .int .i64 pD]).cell 0 _ rfl), below_cell h ((Cel.new w2 23 #[.int .i64 pN, .int .i64 pD]).cell 1 _ rfl)⟩
        clear hb
        obtain ⟨g0, g1, g2, g3⟩ := HM2.out _ (Below.refl _ _)
        rcases hpp with bp | ⟨bp, bp2⟩
        · go_wp2_with fail
          go_fit (HBR.out _)
          rintro e w' ⟨rfl, rfl⟩
          go_wp2_with fail
          go_fit (K3.out _ HB2.out)
          rintro e w3 ⟨rfl, hb⟩
          clear g0 g1 g2 g3
          have HB3 := Lib.hid (below_then HB2.out (hb.alloc hb.size (.cells #[.int .i64 qN, .int .i64 qD] 23)))
          have HM3 : Hid (∀ w', Below (w3.alloc (.cells #[.int .i64 qN, .int .i64 qD] 23)).heap.size (w3.alloc (.cells #[.int .i64 qN, .int .i64 qD] 23)) w' → w'.cell? ⟨w1.heap.size, 0, none⟩ = some (.int .i64 pN) ∧ w'.cell? ⟨w1.heap.size, 1, none⟩ = some (.int .i64 pD) ∧ w'.cell? ⟨w2.heap.size, 0, none⟩ = some (.int .i64 pN) ∧ w'.cell? ⟨w2.heap.size, 1, none⟩ = some (.int .i64 pD) ∧ w'.cell? ⟨w3.heap.size, 0, none⟩ = some (.int .i64 qN) ∧ w'.cell? ⟨w3.heap.size, 1, none⟩ = some (.int .i64 qD)) := fun w' h => by
            obtain ⟨q0, q1, q2, q3⟩ := HM2.out w' (below_then (hb.alloc hb.size (.cells #[.int .i64 qN, .int .i64 qD] 23)) h)
            exact ⟨q0, q1, q2, q3, below_cell h ((Cel.new w3 23 #[.int .i64 qN, .int .i64 qD]).cell 0 _ rfl), below_cell h ((Cel.new w3 23 #[.int .i64 qN, .int .i64 qD]).cell 1 _ rfl)⟩
          clear hb
          obtain ⟨g0, g1, g2, g3, g4, g5⟩ := HM3.out _ (Below.refl _ _)
          go_wp2_with fail
          go_fit (K4.out _ HB3.out)
          rintro e w4 ⟨rfl, hb⟩
          clear g0 g1 g2 g3 g4 g5
          have HB4 := Lib.hid (below_then HB3.out (hb.alloc hb.size (.cells #[.int .i64 rN, .int .i64 rD] 23)))
          have HM4 : Hid (∀ w', Below (w4.alloc (.cells #[.int .i64 rN, .int .i64 rD] 23)).heap.size (w4.alloc (.cells #[.int .i64 rN, .int .i64 rD] 23)) w' → w'.cell? ⟨w1.heap.size, 0, none⟩ = some (.int .i64 pN) ∧ w'.cell? ⟨w1.heap.size, 1, none⟩ = some (.int .i64 pD) ∧ w'.cell? ⟨w2.heap.size, 0, none⟩ = some (.int .i64 pN) ∧ w'.cell? ⟨w2.heap.size, 1, none⟩ = some (.int .i64 pD) ∧ w'.cell? ⟨w3.heap.size, 0, none⟩ = some (.int .i64 qN) ∧ w'.cell? ⟨w3.heap.size, 1, none⟩ = some (.int .i64 qD) ∧ w'.cell? ⟨w4.heap.size, 0, none⟩ = some (.int .i64 rN) ∧ w'.cell? ⟨w4.heap.size, 1, none⟩ = some (.int .i64 rD)) := fun w' h => by
            obtain ⟨q0, q1, q2, q3, q4, q5⟩ := HM3.out w' (below_then (hb.alloc hb.size (.cells #[.int .i64 rN, .int .i64 rD] 23)) h)
            exact ⟨q0, q1, q2, q3, q4, q5, below_cell h ((Cel.new w4 23 #[.int .i64 rN, .int .i64 rD]).cell 0 _ rfl), below_cell h ((Cel.new w4 23 #[.int .i64 rN, .int .i64 rD]).cell 1 _ rfl)⟩
          clear hb
          obtain ⟨g0, g1, g2, g3, g4, g5, g6, g7⟩ := HM4.out _ (Below.refl _ _)
          by_cases hq : qE = 0
          · by_cases hr : rE = 0
            · have KN := Lib.hid (fun w' hb => KM.out w' hb hq hr)
              have bq : (qE != 0) = false := by simpa using hq
              have br : (rE != 0) = false := by simpa using hr
              clear hq hr KM
              go_wp2_with fail
              go_fit (KN.out _ HB4.out)
              rintro e w5 ⟨rfl, hb⟩
              clear g0 g1 g2 g3 g4 g5 g6 g7
              have HB5 := Lib.hid (below_then HB4.out (hb.alloc hb.size (.cells #[.int .i64 pN, .int .i64 pD] 23)))
              have HM5 : Hid (∀ w', Below (w5.alloc (.cells #[.int .i64 pN, .int .i64 pD] 23)).heap.size (w5.alloc (.cells #[.int .i64 pN, .int .i64 pD] 23)) w' → w'.cell? ⟨w1.heap.size, 0, none⟩ = some (.int .i64 pN) ∧ w'.cell? ⟨w1.heap.size, 1, none⟩ = some (.int .i64 pD) ∧ w'.cell? ⟨w2.heap.size, 0, none⟩ = some (.int .i64 pN) ∧ w'.cell? ⟨w2.heap.size, 1, none⟩ = some (.int .i64 pD) ∧ w'.cell? ⟨w3.heap.size, 0, none⟩ = some (.int .i64 qN) ∧ w'.cell? ⟨w3.heap.size, 1, none⟩ = some (.int .i64 qD) ∧ w'.cell? ⟨w4.heap.size, 0, none⟩ = some (.int .i64 rN) ∧ w'.cell? ⟨w4.heap.size, 1, none⟩ = some (.int .i64 rD) ∧ w'.cell? ⟨w5.heap.size, 0, none⟩ = some (.int .i64 pN) ∧ w'.cell? ⟨w5.heap.size, 1, none⟩ = some (.int .i64 pD)) := fun w' h => by
                obtain ⟨q0, q1, q2, q3, q4, q5, q6, q7⟩ := HM4.out w' (below_then (hb.alloc hb.size (.cells #[.int .i64 pN, .int .i64 pD] 23)) h)
                exact ⟨q0, q1, q2, q3, q4, q5, q6, q7, below_cell h ((Cel.new w5 23 #[.int .i64 pN, .int .i64 pD]).cell 0 _ rfl), below_cell h ((Cel.new w5 23 #[.int .i64 pN, .int .i64 pD]).cell 1 _ rfl)⟩
              clear hb
              obtain ⟨g0, g1, g2, g3, g4, g5, g6, g7, g8, g9⟩ := HM5.out _ (Below.refl _ _)
              go_wp2_with fail
              go_fit (KW.out _ HB5.out)
              rintro e w6 ⟨rfl, hb⟩
              go_wp2
              go_ret
              exact ⟨rfl, below_then HB.out (below_then HB5.out hb)⟩
            · have bq : (qE != 0) = false := by simpa using hq
              have br : (rE != 0) = true := by simpa using hr
              clear hq hr KM
              go_wp2_with fail
              go_fit (KW.out _ HB4.out)
              rintro e w5 ⟨rfl, hb⟩
              go_wp2
              go_ret
              exact ⟨rfl, below_then HB.out (below_then HB4.out hb)⟩
          · have bq : (qE != 0) = true := by simpa using hq
            clear hq KM
            go_wp2_with fail
            go_fit (KW.out _ HB4.out)
            rintro e w5 ⟨rfl, hb⟩
            go_wp2
            go_ret
            exact ⟨rfl, below_then HB.out (below_then HB4.out hb)⟩
        · go_wp2_with fail
          go_fit (HBR.out _)
          rintro e w' ⟨rfl, rfl⟩
          go_wp2_with fail
          go_fit (K3.out _ HB2.out)
          rintro e w3 ⟨rfl, hb⟩
          clear g0 g1 g2 g3
          have HB3 := Lib.hid (below_then HB2.out (hb.alloc hb.size (.cells #[.int .i64 qN, .int .i64 qD] 23)))
          have HM3 : Hid (∀ w', Below (w3.alloc (.cells #[.int .i64 qN, .int .i64 qD] 23)).heap.size (w3.alloc (.cells #[.int .i64 qN, .int .i64 qD] 23)) w' → w'.cell? ⟨w1.heap.size, 0, none⟩ = some (.int .i64 pN) ∧ w'.cell? ⟨w1.heap.size, 1, none⟩ = some (.int .i64 pD) ∧ w'.cell? ⟨w2.heap.size, 0, none⟩ = some (.int .i64 pN) ∧ w'.cell? ⟨w2.heap.size, 1, none⟩ = some (.int .i64 pD) ∧ w'.cell? ⟨w3.heap.size, 0, none⟩ = some (.int .i64 qN) ∧ w'.cell? ⟨w3.heap.size, 1, none⟩ = some (.int .i64 qD)) := fun w' h => by
            obtain ⟨q0, q1, q2, q3⟩ := HM2.out w' (below_then (hb.alloc hb.size (.cells #[.int .i64 qN, .int .i64 qD] 23)) h)
            exact ⟨q0, q1, q2, q3, below_cell h ((Cel.new w3 23 #[.int .i64 qN, .int .i64 qD]).cell 0 _ rfl), below_cell h ((Cel.new w3 23 #[.int .i64 qN, .int .i64 qD]).cell 1 _ rfl)⟩
          clear hb
          obtain ⟨g0, g1, g2, g3, g4, g5⟩ := HM3.out _ (Below.refl _ _)
          go_wp2_with fail
          go_fit (K4.out _ HB3.out)
          rintro e w4 ⟨rfl, hb⟩
          clear g0 g1 g2 g3 g4 g5
          have HB4 := Lib.hid (below_then HB3.out (hb.alloc hb.size (.cells #[.int .i64 rN, .int .i64 rD] 23)))
          have HM4 : Hid (∀ w', Below (w4.alloc (.cells #[.int .i64 rN, .int .i64 rD] 23)).heap.size (w4.alloc (.cells #[.int .i64 rN, .int .i64 rD] 23)) w' → w'.cell? ⟨w1.heap.size, 0, none⟩ = some (.int .i64 pN) ∧ w'.cell? ⟨w1.heap.size, 1, none⟩ = some (.int .i64 pD) ∧ w'.cell? ⟨w2.heap.size, 0, none⟩ = some (.int .i64 pN) ∧ w'.cell? ⟨w2.heap.size, 1, none⟩ = some (.int .i64 pD) ∧ w'.cell? ⟨w3.heap.size, 0, none⟩ = some (.int .i64 qN) ∧ w'.cell? ⟨w3.heap.size, 1, none⟩ = some (.int .i64 qD) ∧ w'.cell? ⟨w4.heap.size, 0, none⟩ = some (.int .i64 rN) ∧ w'.cell? ⟨w4.heap.size, 1, none⟩ = some (.int .i64 rD)) := fun w' h => by
            obtain ⟨q0, q1, q2, q3, q4, q5⟩ := HM3.out w' (below_then (hb.alloc hb.size (.cells #[.int .i64 rN, .int .i64 rD] 23)) h)
            exact ⟨q0, q1, q2, q3, q4, q5, below_cell h ((Cel.new w4 23 #[.int .i64 rN, .int .i64 rD]).cell 0 _ rfl), below_cell h ((Cel.new w4 23 #[.int .i64 rN, .int .i64 rD]).cell 1 _ rfl)⟩
          clear hb
          obtain ⟨g0, g1, g2, g3, g4, g5, g6, g7⟩ := HM4.out _ (Below.refl _ _)
          by_cases hq : qE = 0
          · by_cases hr : rE = 0
            · have KN := Lib.hid (fun w' hb => KM.out w' hb hq hr)
              have bq : (qE != 0) = false := by simpa using hq
              have br : (rE != 0) = false := by simpa using hr
              clear hq hr KM
              go_wp2_with fail
              go_fit (KN.out _ HB4.out)
              rintro e w5 ⟨rfl, hb⟩
              clear g0 g1 g2 g3 g4 g5 g6 g7
              have HB5 := Lib.hid (below_then HB4.out (hb.alloc hb.size (.cells #[.int .i64 pN, .int .i64 pD] 23)))
              have HM5 : Hid (∀ w', Below (w5.alloc (.cells #[.int .i64 pN, .int .i64 pD] 23)).heap.size (w5.alloc (.cells #[.int .i64 pN, .int .i64 pD] 23)) w' → w'.cell? ⟨w1.heap.size, 0, none⟩ = some (.int .i64 pN) ∧ w'.cell? ⟨w1.heap.size, 1, none⟩ = some (.int .i64 pD) ∧ w'.cell? ⟨w2.heap.size, 0, none⟩ = some (.int .i64 pN) ∧ w'.cell? ⟨w2.heap.size, 1, none⟩ = some (.int .i64 pD) ∧ w'.cell? ⟨w3.heap.size, 0, none⟩ = some (.int .i64 qN) ∧ w'.cell? ⟨w3.heap.size, 1, none⟩ = some (.int .i64 qD) ∧ w'.cell? ⟨w4.heap.size, 0, none⟩ = some (.int .i64 rN) ∧ w'.cell? ⟨w4.heap.size, 1, none⟩ = some (.int .i64 rD) ∧ w'.cell? ⟨w5.heap.size, 0, none⟩ = some (.int .i64 pN) ∧ w'.cell? ⟨w5.heap.size, 1, none⟩ = some (.int .i64 pD)) := fun w' h => by
                obtain ⟨q0, q1, q2, q3, q4, q5, q6, q7⟩ := HM4.out w' (below_then (hb.alloc hb.size (.cells #[.int .i64 pN, .int .i64 pD] 23)) h)
                exact ⟨q0, q1, q2, q3, q4, q5, q6, q7, below_cell h ((Cel.new w5 23 #[.int .i64 pN, .int .i64 pD]).cell 0 _ rfl), below_cell h ((Cel.new w5 23 #[.int .i64 pN, .int .i64 pD]).cell 1 _ rfl)⟩
              clear hb
              obtain ⟨g0, g1, g2, g3, g4, g5, g6, g7, g8, g9⟩ := HM5.out _ (Below.refl _ _)
              go_wp2_with fail
              go_fit (KW.out _ HB5.out)
              rintro e w6 ⟨rfl, hb⟩
              go_wp2
              go_ret
              exact ⟨rfl, below_then HB.out (below_then HB5.out hb)⟩
            · have bq : (qE != 0) = false := by simpa using hq
              have br : (rE != 0) = true := by simpa using hr
              clear hq hr KM
              go_wp2_with fail
              go_fit (KW.out _ HB4.out)
              rintro e w5 ⟨rfl, hb⟩
              go_wp2
              go_ret
              exact ⟨rfl, below_then HB.out (below_then HB4.out hb)⟩
          · have bq : (qE != 0) = true := by simpa using hq
            clear hq KM
            go_wp2_with fail
            go_fit (KW.out _ HB4.out)
            rintro e w5 ⟨rfl, hb⟩
            go_wp2
            go_ret
            exact ⟨rfl, below_then HB.out (below_then HB4.out hb)⟩
      · go_wp2_with fail
        go_fit (K1.out _ HB0.out)
        rintro e w1 ⟨rfl, hb⟩
        have HB1 := Lib.hid (below_then HB0.out (hb.alloc hb.size (.cells #[.int .i64 pN, .int .i64 pD] 23)))
        have HM1 : Hid (∀ w', Below (w1.alloc (.cells #[.int .i64 pN, .int .i64 pD] 23)).heap.size (w1.alloc (.cells #[.int .i64 pN, .int .i64 pD] 23)) w' → w'.cell? ⟨w1.heap.size, 0, none⟩ = some (.int .i64 pN) ∧ w'.cell? ⟨w1.heap.size, 1, none⟩ = some (.int .i64 pD)) := fun w' h => by
          exact ⟨below_cell h ((Cel.new w1 23 #[.int .i64 pN, .int .i64 pD]).cell 0 _ rfl), below_cell h ((Cel.new w1 23 #[.int .i64 pN, .int .i64 pD]).cell 1 _ rfl)⟩
        clear hb
        obtain ⟨g0, g1⟩ := HM1.out _ (Below.refl _ _)
        go_wp2_with fail
        go_fit (K2.out _ HB1.out)
        rintro e w2 ⟨rfl, hb⟩
        clear g0 g1
        have HB2 := Lib.hid (below_then HB1.out (hb.alloc hb.size (.cells #[.int .i64 pN, .int .i64 pD] 23)))
        have HM2 : Hid (∀ w', Below (w2.alloc (.cells #[.int .i64 pN, .int .i64 pD] 23)).heap.size (w2.alloc (.cells #[.int .i64 pN, .int .i64 pD] 23)) w' → w'.cell? ⟨w1.heap.size, 0, none⟩ = some (.int .i64 pN) ∧ w'.cell? ⟨w1.heap.size, 1, none⟩ = some (.int .i64 pD) ∧ w'.cell? ⟨w2.heap.size, 0, none⟩ = some (.int .i64 pN) ∧ w'.cell? ⟨w2.heap.size, 1, none⟩ = some (.int .i64 pD)) := fun w' h => by
          obtain ⟨q0, q1⟩ := HM1.out w' (below_then (hb.alloc hb.size (.cells #[.int .i64 pN, .int .i64 pD] 23)) h)
          exact ⟨q0, q1, below_cell h ((Cel.new w2 23 #[.int .i64 pN, .int .i64 pD]).cell 0 _ rfl), below_cell h ((Cel.new w2 23 #[.int .i64 pN, .int .i64 pD]).cell 1 _ rfl)⟩
        clear hb
        obtain ⟨g0, g1, g2, g3⟩ := HM2.out _ (Below.refl _ _)
        rcases hpp with bp | ⟨bp, bp2⟩
        · go_wp2_with fail
          go_fit (HBR.out _)
          rintro e w' ⟨rfl, rfl⟩
          go_wp2_with fail
          go_fit (K3.out _ HB2.out)
          rintro e w3 ⟨rfl, hb⟩
          clear g0 g1 g2 g3
          have HB3 := Lib.hid (below_then HB2.out (hb.alloc hb.size (.cells #[.int .i64 qN, .int .i64 qD] 23)))
          have HM3 : Hid (∀ w', Below (w3.alloc (.cells #[.int .i64 qN, .int .i64 qD] 23)).heap.size (w3.alloc (.cells #[.int .i64 qN, .int .i64 qD] 23)) w' → w'.cell? ⟨w1.heap.size, 0, none⟩ = some (.int .i64 pN) ∧ w'.cell? ⟨w1.heap.size, 1, none⟩ = some (.int .i64 pD) ∧ w'.cell? ⟨w2.heap.size, 0, none⟩ = some (.int .i64 pN) ∧ w'.cell? ⟨w2.heap.size, 1, none⟩ = some (.int .i64 pD) ∧ w'.cell? ⟨w3.heap.size, 0, none⟩ = some (.int .i64 qN) ∧ w'.cell? ⟨w3.heap.size, 1, none⟩ = some (.int .i64 qD)) := fun w' h => by
            obtain ⟨q0, q1, q2, q3⟩ := HM2.out w' (below_then (hb.alloc hb.size (.cells #[.int .i64 qN, .int .i64 qD] 23)) h)
            exact ⟨q0, q1, q2, q3, below_cell h ((Cel.new w3 23 #[.int .i64 qN, .int .i64 qD]).cell 0 _ rfl), below_cell h ((Cel.new w3 23 #[.int .i64 qN, .int .i64 qD]).cell 1 _ rfl)⟩
          clear hb
          obtain ⟨g0, g1, g2, g3, g4, g5⟩ := HM3.out _ (Below.refl _ _)
          go_wp2_with fail
          go_fit (K4.out _ HB3.out)
          rintro e w4 ⟨rfl, hb⟩
          clear g0 g1 g2 g3 g4 g5
          have HB4 := Lib.hid (below_then HB3.out (hb.alloc hb.size (.cells #[.int .i64 rN, .int .i64 rD] 23)))
          have HM4 : Hid (∀ w', Below (w4.alloc (.cells #[.int .i64 rN, .int .i64 rD] 23)).heap.size (w4.alloc (.cells #[.int .i64 rN, .int .i64 rD] 23)) w' → w'.cell? ⟨w1.heap.size, 0, none⟩ = some (.int .i64 pN) ∧ w'.cell? ⟨w1.heap.size, 1, none⟩ = some (.int .i64 pD) ∧ w'.cell? ⟨w2.heap.size, 0, none⟩ = some (.int .i64 pN) ∧ w'.cell? ⟨w2.heap.size, 1, none⟩ = some (.int .i64 pD) ∧ w'.cell? ⟨w3.heap.size, 0, none⟩ = some (.int .i64 qN) ∧ w'.cell? ⟨w3.heap.size, 1, none⟩ = some (.int .i64 qD) ∧ w'.cell? ⟨w4.heap.size, 0, none⟩ = some (.int .i64 rN) ∧ w'.cell? ⟨w4.heap.size, 1, none⟩ = some (.int .i64 rD)) := fun w' h => by
            obtain ⟨q0, q1, q2, q3, q4, q5⟩ := HM3.out w' (below_then (hb.alloc hb.size (.cells #[.int .i64 rN, .int .i64 rD] 23)) h)
            exact ⟨q0, q1, q2, q3, q4, q5, below_cell h ((Cel.new w4 23 #[.int .i64 rN, .int .i64 rD]).cell 0 _ rfl), below_cell h ((Cel.new w4 23 #[.int .i64 rN, .int .i64 rD]).cell 1 _ rfl)⟩
          clear hb
          obtain ⟨g0, g1, g2, g3, g4, g5, g6, g7⟩ := HM4.out _ (Below.refl _ _)
          by_cases hq : qE = 0
          · by_cases hr : rE = 0
            · have KN := Lib.hid (fun w' hb => KM.out w' hb hq hr)
              have bq : (qE != 0) = false := by simpa using hq
              have br : (rE != 0) = false := by simpa using hr
              clear hq hr KM
              go_wp2_with fail
              go_fit (KN.out _ HB4.out)
              rintro e w5 ⟨rfl, hb⟩
              clear g0 g1 g2 g3 g4 g5 g6 g7
              have HB5 := Lib.hid (below_then HB4.out (hb.alloc hb.size (.cells #[.int .i64 pN, .int .i64 pD] 23)))
              have HM5 : Hid (∀ w', Below (w5.alloc (.cells #[.int .i64 pN, .int .i64 pD] 23)).heap.size (w5.alloc (.cells #[.int .i64 pN, .int .i64 pD] 23)) w' → w'.cell? ⟨w1.heap.size, 0, none⟩ = some (.int .i64 pN) ∧ w'.cell? ⟨w1.heap.size, 1, none⟩ = some (.int .i64 pD) ∧ w'.cell? ⟨w2.heap.size, 0, none⟩ = some (.int .i64 pN) ∧ w'.cell? ⟨w2.heap.size, 1, none⟩ = some (.int .i64 pD) ∧ w'.cell? ⟨w3.heap.size, 0, none⟩ = some (.int .i64 qN) ∧ w'.cell? ⟨w3.heap.size, 1, none⟩ = some (.int .i64 qD) ∧ w'.cell? ⟨w4.heap.size, 0, none⟩ = some (.int .i64 rN) ∧ w'.cell? ⟨w4.heap.size, 1, none⟩ = some (.int .i64 rD) ∧ w'.cell? ⟨w5.heap.size, 0, none⟩ = some (.int .i64 pN) ∧ w'.cell? ⟨w5.heap.size, 1, none⟩ = some (.int .i64 pD)) := fun w' h => by
                obtain ⟨q0, q1, q2, q3, q4, q5, q6, q7⟩ := HM4.out w' (below_then (hb.alloc hb.size (.cells #[.int .i64 pN, .int .i64 pD] 23)) h)
                exact ⟨q0, q1, q2, q3, q4, q5, q6, q7, below_cell h ((Cel.new w5 23 #[.int .i64 pN, .int .i64 pD]).cell 0 _ rfl), below_cell h ((Cel.new w5 23 #[.int .i64 pN, .int .i64 pD]).cell 1 _ rfl)⟩
              clear hb
              obtain ⟨g0, g1, g2, g3, g4, g5, g6, g7, g8, g9⟩ := HM5.out _ (Below.refl _ _)
              go_wp2_with fail
              go_fit (KW.out _ HB5.out)
              rintro e w6 ⟨rfl, hb⟩
              go_wp2
              go_ret
              exact ⟨rfl, below_then HB.out (below_then HB5.out hb)⟩
            · have bq : (qE != 0) = false := by simpa using hq
              have br : (rE != 0) = true := by simpa using hr
              clear hq hr KM
              go_wp2_with fail
              go_fit (KW.out _ HB4.out)
              rintro e w5 ⟨rfl, hb⟩
              go_wp2
              go_ret
              exact ⟨rfl, below_then HB.out (below_then HB4.out hb)⟩
          · have bq : (qE != 0) = true := by simpa using hq
            clear hq KM
            go_wp2_with fail
            go_fit (KW.out _ HB4.out)
            rintro e w5 ⟨rfl, hb⟩
            go_wp2
            go_ret
            exact ⟨rfl, below_then HB.out (below_then HB4.out hb)⟩
        · go_wp2_with fail
          go_fit (HBR.out _)
          rintro e w' ⟨rfl, rfl⟩
          go_wp2_with fail
          go_fit (K3.out _ HB2.out)
          rintro e w3 ⟨rfl, hb⟩
          clear g0 g1 g2 g3
          have HB3 := Lib.hid (below_then HB2.out (hb.alloc hb.size (.cells #[.int .i64 qN, .int .i64 qD] 23)))
          have HM3 : Hid (∀ w', Below (w3.alloc (.cells #[.int .i64 qN, .int .i64 qD] 23)).heap.size (w3.alloc (.cells #[.int .i64 qN, .int .i64 qD] 23)) w' → w'.cell? ⟨w1.heap.size, 0, none⟩ = some (.int .i64 pN) ∧ w'.cell? ⟨w1.heap.size, 1, none⟩ = some (.int .i64 pD) ∧ w'.cell? ⟨w2.heap.size, 0, none⟩ = some (.int .i64 pN) ∧ w'.cell? ⟨w2.heap.size, 1, none⟩ = some (.int .i64 pD) ∧ w'.cell? ⟨w3.heap.size, 0, none⟩ = some (.int .i64 qN) ∧ w'.cell? ⟨w3.heap.size, 1, none⟩ = some (.int .i64 qD)) := fun w' h => by
            obtain ⟨q0, q1, q2, q3⟩ := HM2.out w' (below_then (hb.alloc hb.size (.cells #[.int .i64 qN, .int .i64 qD] 23)) h)
            exact ⟨q0, q1, q2, q3, below_cell h ((Cel.new w3 23 #[.int .i64 qN, .int .i64 qD]).cell 0 _ rfl), below_cell h ((Cel.new w3 23 #[.int .i64 qN, .int .i64 qD]).cell 1 _ rfl)⟩
          clear hb
          obtain ⟨g0, g1, g2, g3, g4, g5⟩ := HM3.out _ (Below.refl _ _)
          go_wp2_with fail
          go_fit (K4.out _ HB3.out)
          rintro e w4 ⟨rfl, hb⟩
          clear g0 g1 g2 g3 g4 g5
          have HB4 := Lib.hid (below_then HB3.out (hb.alloc hb.size (.cells #[.int .i64 rN, .int .i64 rD] 23)))
          have HM4 : Hid (∀ w', Below (w4.alloc (.cells #[.int .i64 rN, .int .i64 rD] 23)).heap.size (w4.alloc (.cells #[.int .i64 rN, .int .i64 rD] 23)) w' → w'.cell? ⟨w1.heap.size, 0, none⟩ = some (.int .i64 pN) ∧ w'.cell? ⟨w1.heap.size, 1, none⟩ = some (.int .i64 pD) ∧ w'.cell? ⟨w2.heap.size, 0, none⟩ = some (.int .i64 pN) ∧ w'.cell? ⟨w2.heap.size, 1, none⟩ = some (.int .i64 pD) ∧ w'.cell? ⟨w3.heap.size, 0, none⟩ = some (.int .i64 qN) ∧ w'.cell? ⟨w3.heap.size, 1, none⟩ = some (.int .i64 qD) ∧ w'.cell? ⟨w4.heap.size, 0, none⟩ = some (.int .i64 rN) ∧ w'.cell? ⟨w4.heap.size, 1, none⟩ = some (.int .i64 rD)) := fun w' h => by
            obtain ⟨q0, q1, q2, q3, q4, q5⟩ := HM3.out w' (below_then (hb.alloc hb.size (.cells #[.int .i64 rN, .int .i64 rD] 23)) h)
            exact ⟨q0, q1, q2, q3, q4, q5, below_cell h ((Cel.new w4 23 #[.int .i64 rN, .int .i64 rD]).cell 0 _ rfl), below_cell h ((Cel.new w4 23 #[.int .i64 rN, .int .i64 rD]).cell 1 _ rfl)⟩
          clear hb
          obtain ⟨g0, g1, g2, g3, g4, g5, g6, g7⟩ := HM4.out _ (Below.refl _ _)
          by_cases hq : qE = 0
          · by_cases hr : rE = 0
            · have KN := Lib.hid (fun w' hb => KM.out w' hb hq hr)
              have bq : (qE != 0) = false := by simpa using hq
              have br : (rE != 0) = false := by simpa using hr
              clear hq hr KM
              go_wp2_with fail
              go_fit (KN.out _ HB4.out)
              rintro e w5 ⟨rfl, hb⟩
              clear g0 g1 g2 g3 g4 g5 g6 g7
              have HB5 := Lib.hid (below_then HB4.out (hb.alloc hb.size (.cells #[.int .i64 pN, .int .i64 pD] 23)))
              have HM5 : Hid (∀ w', Below (w5.alloc (.cells #[.int .i64 pN, .int .i64 pD] 23)).heap.size (w5.alloc (.cells #[.int .i64 pN, .int .i64 pD] 23)) w' → w'.cell? ⟨w1.heap.size, 0, none⟩ = some (.int .i64 pN) ∧ w'.cell? ⟨w1.heap.size, 1, none⟩ = some (.int .i64 pD) ∧ w'.cell? ⟨w2.heap.size, 0, none⟩ = some (.int .i64 pN) ∧ w'.cell? ⟨w2.heap.size, 1, none⟩ = some (.int .i64 pD) ∧ w'.cell? ⟨w3.heap.size, 0, none⟩ = some (.int .i64 qN) ∧ w'.cell? ⟨w3.heap.size, 1, none⟩ = some (.int .i64 qD) ∧ w'.cell? ⟨w4.heap.size, 0, none⟩ = some (.int .i64 rN) ∧ w'.cell? ⟨w4.heap.size, 1, none⟩ = some (.int .i64 rD) ∧ w'.cell? ⟨w5.heap.size, 0, none⟩ = some (.int .i64 pN) ∧ w'.cell? ⟨w5.heap.size, 1, none⟩ = some (.int .i64 pD)) := fun w' h => by
                obtain ⟨q0, q1, q2, q3, q4, q5, q6, q7⟩ := HM4.out w' (below_then (hb.alloc hb.size (.cells #[.int .i64 pN, .int .i64 pD] 23)) h)
                exact ⟨q0, q1, q2, q3, q4, q5, q6, q7, below_cell h ((Cel.new w5 23 #[.int .i64 pN, .int .i64 pD]).cell 0 _ rfl), below_cell h ((Cel.new w5 23 #[.int .i64 pN, .int .i64 pD]).cell 1 _ rfl)⟩
              clear hb
              obtain ⟨g0, g1, g2, g3, g4, g5, g6, g7, g8, g9⟩ := HM5.out _ (Below.refl _ _)
              go_wp2_with fail
              go_fit (KW.out _ HB5.out)
              rintro e w6 ⟨rfl, hb⟩
              go_wp2
              go_ret
              exact ⟨rfl, below_then HB.out (below_then HB5.out hb)⟩
            · have bq : (qE != 0) = false := by simpa using hq
              have br : (rE != 0) = true := by simpa using hr
              clear hq hr KM
              go_wp2_with fail
              go_fit (KW.out _ HB4.out)
              rintro e w5 ⟨rfl, hb⟩
              go_wp2
              go_ret
              exact ⟨rfl, below_then HB.out (below_then HB4.out hb)⟩
          · have bq : (qE != 0) = true := by simpa using hq
            clear hq KM
            go_wp2_with fail
            go_fit (KW.out _ HB4.out)
            rintro e w5 ⟨rfl, hb⟩
            go_wp2
            go_ret
            exact ⟨rfl, below_then HB.out (below_then HB4.out hb)⟩
end Go.Proofs.YtmibpncmebhbjaaDoor
