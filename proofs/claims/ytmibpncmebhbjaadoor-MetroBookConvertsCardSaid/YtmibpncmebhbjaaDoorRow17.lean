/- MetroBookConverts: the walk. -/
import Derived.Test.YtmibpncmebhbjaaDoorCvs1
import Derived.Test.YtmibpncmebhbjaaDoorOpenI
import Derived.Test.YtmibpncmebhbjaaDoorTrn2
import Derived.Deep.RegionHeld3
import Derived.Deep.DeepCutAuto
namespace Go.Proofs.YtmibpncmebhbjaaDoor
open Go Go.RowKit Go.Shelf
attribute [local go_sem] Oper.semAt_some rrV

set_option maxRecDepth 100000 in
set_option maxHeartbeats 8000000 in
theorem bookConverts_any (vl vb vn va : Value) (ls : List La) (bs : List Br) (ns : List ByteArray) (ams : List (ByteArray × Int)) (w : World) (hz : Zw w) (hl : LadsV w vl ls) (hb : Sl w 6 vb (brsV bs)) (hn : Sl w 1 vn (namesV ns)) (ha : Sl w 2 va (amtsV ams)) :
    Calls Tryd.prog 6 #[.agg #[vl, vb, vn, va]] w fun e w' => e = .returned (.bool true) ∧ Below w.heap.size w w' := by
  have HSN := Lib.hid hn
  obtain ⟨LA, lc, rfl, _, _, _⟩ := hl.open
  obtain ⟨BA, bn, bc, rfl, _⟩ := hb.shape
  obtain ⟨NA, nc, rfl, hnc, hncm, hncell⟩ := hn.open1
  rw [namesV_length] at hnc
  rw [namesV_length]
  rw [namesV_length] at HSN
  obtain ⟨AA, an, ac, rfl, ham, hac, hacm, hacell⟩ := ha.open2 (by decide)
  rw [amtsV_length] at ham
  obtain rfl : an = ams.length := by omega
  obtain ⟨E, st', hF⟩ : ∃ E st', newF ls bs = (E, st') := ⟨_, _, rfl⟩
  have HF0 := Lib.hid hF
  have HZ := Lib.hid (fun w' (hb : Below w.heap.size w w') => hz.below hb)
  have KW : Hid (∀ w', Below w.heap.size w w' → Calls Tryd.prog 27 #[] w' fun e w'' => e = .returned (.bool true) ∧ Below w'.heap.size w' w'') := fun w' hb => works_any w' (HZ.out w' hb)
  have KN := Lib.hid (fun w' (h : Below w.heap.size w w') => newbook_any ls bs _ _ w' (hl.below h) (hb.below h) E st' hF)
  have KR := Lib.hid (fun w' (h : Below w.heap.size w w') => rnew_any ls bs _ _ w' (hl.below h) (hb.below h) E st' hF)
  have Y := Cel.new w 60 #[.slice LA ls.length lc, .slice BA bn bc, .slice NA ns.length nc, .slice AA ams.length ac]
  have HB0 := Lib.hid (below_alloc' w (.cells #[.slice LA ls.length lc, .slice BA bn bc, .slice NA ns.length nc, .slice AA ams.length ac] 60))
  have HN : Hid (∀ W k (h : k < ns.length), Below w.heap.size w W → ∃ ad, NA = some ad ∧ W.cell? (ad.add k) = some (.string ns[k])) := by
    intro W k h hB
    obtain ⟨ad, e, h1⟩ := hncell k (.string ns[k]) (by simp [namesV, h])
    exact ⟨ad, e, below_cell hB h1⟩
  have HAC := Lib.hid hacell
  have HY := Lib.hid Y
  have y0 := Y.cell 0 (.slice LA ls.length lc) rfl
  have y1 := Y.cell 1 (.slice BA bn bc) rfl
  clear hz hl hb hn ha hncell hacell Y hF ham
  go_enter Tryd.func6, Tryd.ntmps6
  go_wp2_with fail
  go_fit (KN.out _ HB0.out)
  rintro e w1 ⟨r, rfl, hb1, hr0, hr1⟩
  have HB1 := Lib.hid (below_then HB0.out hb1)
  have HR0 := Lib.hid hr0
  have HR1 := Lib.hid hr1
  have HY1 := Lib.hid (HY.out.below HY.out.lt hb1)
  clear hb1 hr0 hr1 y0 y1
  have y0 := HY1.out.cell 0 (.slice LA ls.length lc) rfl
  have y1 := HY1.out.cell 1 (.slice BA bn bc) rfl
  go_wp2_with fail
  go_fit (KR.out _ HB1.out)
  intro e w2 hpost
  obtain ⟨r', rfl, hb2, hq0, hq1⟩ := hpost
  have HB2 := Lib.hid (below_then HB1.out hb2)
  have HY2 := Lib.hid (HY1.out.below HY1.out.lt hb2)
  have HQ0 := Lib.hid hq0
  have HQ1 := Lib.hid hq1
  have HB12 := Lib.hid hb2
  clear hb2 hq0 hq1 y0 y1 KN KR
  have b0 : (E != E) = false := by simp
  by_cases hE : E = 0
  · obtain ⟨Bk, bm, lv, gv, fv, rfl, hbo⟩ := HR1.out hE
    obtain ⟨Bk', lv', bv', rfl, hrb, hbd, hls⟩ := HQ1.out hE
    have hbs64 : bs.length ≤ 64 := by
      have := HF0.out
      unfold newF at this
      split at this
      · injection this with h1 h2; omega
      · omega
    have hv2 := hbo.view.below HB12.out
    have hr2 : RBk w2 Bk' lv' bv' st'.ls bs := by rw [hls]; exact hrb
    have KF := Lib.hid (fun a b w' (h : Below w2.heap.size w2 w') => factor_any Bk bm lv gv fv st' a b w' (hv2.below h) hbd.good)
    have KRF := Lib.hid (fun a b w' (h : Below w2.heap.size w2 w') => rfactor_any Bk' lv' bv' st' bs a b w' (hr2.below h) hbs64 hbd)
    have KC := Lib.hid (fun a b n w' (h : Below w2.heap.size w2 w') => converts_any Bk bm lv gv fv Bk' lv' bv' st' bs a b n w' (hv2.below h) hbd.good (HZ.out w' (below_then HB2.out h)) (hr2.below h) hbs64 hbd)
    have KCH := Lib.hid (fun w' (h : Below w2.heap.size w2 w') => chain_any Bk bm lv gv fv st' ns _ w' (hv2.below h) hbd.good (HSN.out.below (below_then HB2.out h)))
    have KRC := Lib.hid (fun w' (h : Below w2.heap.size w2 w') => rchain_any Bk' lv' bv' st' bs ns _ w' (hr2.below h) hbs64 hbd (HSN.out.below (below_then HB2.out h)))
    have z2 := HY2.out.cell 2 (.slice NA ns.length nc) rfl
    have HYW : Hid (∀ W, Below w2.heap.size w2 W → W.cell? ⟨w.heap.size, 2, none⟩ = some (.slice NA ns.length nc) ∧ W.cell? ⟨w.heap.size, 3, none⟩ = some (.slice AA ams.length ac)) := fun W h => by
      have y := HY2.out.below HY2.out.lt h
      exact ⟨y.cell 2 _ rfl, y.cell 3 _ rfl⟩
    have hHW : Below w2.heap.size w2 w2 := Below.refl _ _
    have HH2 := Lib.hid hHW
    obtain ⟨K, hK⟩ : ∃ K, min ns.length 8 = K := ⟨_, rfl⟩
    have HK := Lib.hid hK
    have hK1 : K ≤ ns.length := by omega
    have hK2 : K ≤ nc := by omega
    clear hE hbo hrb hls HR0 HR1 HQ0 HQ1 hbd hv2 hr2 hHW hK
    go_upto_region 7 with fail
    go_cut [7] (fun v7 wx => ∃ (Wx : World), Wx = wx ∧ v7 = .slice NA K nc ∧ wx = w2)
    case first =>
      go_wp2_with fail
      all_goals (
        have hk := HK.out
        go_meet
        exact ⟨_, rfl, by first | rfl | (congr 1; omega), rfl⟩)
    case rest =>
      obtain ⟨Wx, rfl, rfl, rfl⟩ := hcut
      clear z2
      obtain ⟨M, hM⟩ : ∃ M, min ams.length 8 = M := ⟨_, rfl⟩
      have hM1 : M ≤ ams.length := by omega
      have hM3 : ∀ k, k < ams.length → k < 8 → k < M := fun k h1 h2 => by omega
      have hM2 : M ≤ 8 := by omega
      have HM3 := Lib.hid hM3
      clear hM hM3 HK
      go_wp2
      go_loopw [8] (fun t8 wr => ∃ i : Nat, t8 = .int .i64 i ∧ i ≤ K ∧ Hid (Below Wx.heap.size Wx wr)) (fun t8 _ => K - (intOf t8).toNat)
      case atStart => exact ⟨0, rfl, by omega, Below.refl _ _⟩
      case round =>
        obtain ⟨i, rfl, hi, HB⟩ := hrel
        by_cases hil : i < K
        · have hin : i < ns.length := by omega
          go_wp2
          go_loopw [9] (fun t9 wq => ∃ j : Nat, t9 = .int .i64 j ∧ j ≤ K ∧ Hid (Below Wx.heap.size Wx wq)) (fun t9 _ => K - (intOf t9).toNat)
          case atStart => exact ⟨0, rfl, by omega, HB.out⟩
          case round =>
            clear HB
            obtain ⟨j, rfl, hj, HB⟩ := hrel
            by_cases hjl : j < K
            · have hjn : j < ns.length := by omega
              obtain ⟨ad, rfl, e1⟩ := HN.out wr i hin (below_then HB2.out HB.out)
              obtain ⟨ad', h', e2⟩ := HN.out wr j hjn (below_then HB2.out HB.out)
              cases h'
              generalize ns[i] = n1 at *
              generalize ns[j] = n2 at *
              have HEX : Hid (∀ w', Below wr.heap.size wr w' → w'.cell? (ad.add i) = some (.string n1) ∧ w'.cell? (ad.add j) = some (.string n2)) := fun w' hb => ⟨below_cell hb e1, below_cell hb e2⟩
              have KF1 := Lib.hid (fun w' h => KF.out n1 n2 w' h)
              have KF2 := Lib.hid (fun w' h => KRF.out n1 n2 w' h)
              generalize factorF st' n1 n2 = F at *
              have i1 : (0 : Int) ≤ (i : Int) := by omega
              have i2 : (i : Int) < (K : Int) := by omega
              have j1 : (0 : Int) ≤ (j : Int) := by omega
              have j2 : (j : Int) < (K : Int) := by omega
              have hU0 := Lib.hid (Below.refl wr.heap.size wr)
              go_upto_region 14 with fail
              go_cut [10, 11] (fun ta tb wx => ∃ (Wc : World) (B : Nat), Wc = wx ∧ ta = .pointer (some ⟨B, 0, none⟩) ∧ tb = .int .i64 F.e ∧ Cel wx B 23 #[.int .i64 F.n, .int .i64 F.d] ∧ Below wr.heap.size wr wx)
              case first =>
                go_region_held3 (fun w' => w'.cell? (ad.add i) = some (.string n1) ∧ w'.cell? (ad.add j) = some (.string n2))
                  (first | exact ⟨e1, e2⟩ | exact HEX.out _ (by (repeat (first | exact hU0.out | exact HE1.out | refine below_drew ?_ | refine Below.setCell ?_ (by first | omega | (simp; done) | (simp; omega)) _ | refine Below.alloc ?_ (by first | omega | (simp; done) | (simp; omega)) _)); done) | go_keep)
                  ((go_at_call 41; refine (KF1.out _ (below_then HB.out (by (repeat (first | exact hU0.out | refine below_drew ?_ | refine Below.alloc ?_ (by first | omega | (simp; done) | (simp; omega)) _)); done))).mono ?_; rintro e x1 ⟨rfl, hb⟩; have hx1 : Below wr.heap.size wr x1 := (by (refine below_then ?_ hb; (repeat (first | exact hU0.out | refine below_drew ?_ | refine Below.alloc ?_ (by first | omega | (simp; done) | (simp; omega)) _)))); have HE1 := Lib.hid hx1; have hz1 := hx1.size; (first | (have hy := (show Cel ((wr.alloc (.cells #[.int .i64 0, .int .i64 0] 23)).drew) wr.heap.size 23 #[.int .i64 0, .int .i64 0] from Cel.new wr _ _).below (by simp) hb; have z0 := hy.cell 0 (.int .i64 0) rfl; have z1 := hy.cell 1 (.int .i64 0) rfl; have q0 := hy.frozen 0; have q1 := hy.frozen 1; have HYY := Lib.hid hy; clear hy) | skip); clear hb hx1))
                all_goals (
                  go_wp2
                  go_meet
                  first
                  | exact ⟨_, x1.heap.size, rfl, rfl, rfl, Cel.new x1 _ _, HE1.out.alloc HE1.out.size _⟩
                  | exact ⟨_, wr.heap.size, rfl, rfl, rfl, HYY.out.set2 _ _, (HE1.out.setCell (p := ⟨wr.heap.size, 0, none⟩) (Nat.le_refl _) _).setCell (p := ⟨wr.heap.size, 1, none⟩) (Nat.le_refl _) _⟩)
              case rest =>
                obtain ⟨Wz, B1, rfl, rfl, rfl, hR, hbz⟩ := hcut
                have HRz := Lib.hid hR
                have HBz := Lib.hid (below_then HB.out hbz)
                obtain ⟨d1, d2⟩ := HEX.out Wz hbz
                have HEX2 : Hid (∀ w', Below Wz.heap.size Wz w' → w'.cell? (ad.add i) = some (.string n1) ∧ w'.cell? (ad.add j) = some (.string n2)) := fun w' hb => ⟨below_cell hb d1, below_cell hb d2⟩
                clear hR hbz e1 e2 HEX HB
                have hU0 := Lib.hid (Below.refl Wz.heap.size Wz)
                go_upto_region 15 with fail
                go_cut [12, 13] (fun ta tb wx => ∃ (Wc : World) (B : Nat), Wc = wx ∧ ta = .pointer (some ⟨B, 0, none⟩) ∧ tb = .int .i64 F.e ∧ Cel wx B 23 #[.int .i64 F.n, .int .i64 F.d] ∧ Below Wz.heap.size Wz wx)
                case first =>
                  go_region_held3 (fun w' => w'.cell? (ad.add i) = some (.string n1) ∧ w'.cell? (ad.add j) = some (.string n2))
                    (first | exact ⟨d1, d2⟩ | exact HEX2.out _ (by (repeat (first | exact hU0.out | exact HE1.out | refine below_drew ?_ | refine Below.setCell ?_ (by first | omega | (simp; done) | (simp; omega)) _ | refine Below.alloc ?_ (by first | omega | (simp; done) | (simp; omega)) _)); done) | go_keep)
                    ((go_at_call 42; refine (KF2.out _ (below_then HBz.out (by (repeat (first | exact hU0.out | refine below_drew ?_ | refine Below.alloc ?_ (by first | omega | (simp; done) | (simp; omega)) _)); done))).mono ?_; rintro e x1 ⟨rfl, hb⟩; have hx1 : Below Wz.heap.size Wz x1 := (by (refine below_then ?_ hb; (repeat (first | exact hU0.out | refine below_drew ?_ | refine Below.alloc ?_ (by first | omega | (simp; done) | (simp; omega)) _)))); have HE1 := Lib.hid hx1; have hz1 := hx1.size; (first | (have hy := (show Cel ((Wz.alloc (.cells #[.int .i64 0, .int .i64 0] 23)).drew) Wz.heap.size 23 #[.int .i64 0, .int .i64 0] from Cel.new Wz _ _).below (by simp) hb; have z0 := hy.cell 0 (.int .i64 0) rfl; have z1 := hy.cell 1 (.int .i64 0) rfl; have q0 := hy.frozen 0; have q1 := hy.frozen 1; have HYY := Lib.hid hy; clear hy) | skip); clear hb hx1))
                  all_goals (
                    go_wp2
                    go_meet
                    first
                    | exact ⟨_, x1.heap.size, rfl, rfl, rfl, Cel.new x1 _ _, HE1.out.alloc HE1.out.size _⟩
                    | exact ⟨_, Wz.heap.size, rfl, rfl, rfl, HYY.out.set2 _ _, (HE1.out.setCell (p := ⟨Wz.heap.size, 0, none⟩) (Nat.le_refl _) _).setCell (p := ⟨Wz.heap.size, 1, none⟩) (Nat.le_refl _) _⟩)
                case rest =>
                  obtain ⟨Wu, B2, rfl, rfl, rfl, hR, hbz⟩ := hcut
                  have HBu := Lib.hid (below_then HBz.out hbz)
                  have y1 := HRz.out.below HRz.out.lt hbz
                  have p0 := y1.cell 0 (.int .i64 F.n) rfl
                  have p1 := y1.cell 1 (.int .i64 F.d) rfl
                  have p2 := hR.cell 0 (.int .i64 F.n) rfl
                  have p3 := hR.cell 1 (.int .i64 F.d) rfl
                  clear y1 hR hbz d1 d2 HEX2
                  go_wp2
                  go_roundw
                  case rel => exact ⟨j + 1, by go_num, hjl, HBu.out⟩
                  case measure => simp [intOf]; omega
            · go_wp2
              clear hj hjl
              go_loopw [14] (fun t14 wq => ∃ k : Nat, t14 = .int .i64 k ∧ k ≤ M ∧ Hid (Below Wx.heap.size Wx wq)) (fun t14 _ => M - (intOf t14).toNat)
              case atStart => exact ⟨0, rfl, by omega, HB.out⟩
              case round =>
                clear HB
                obtain ⟨k, rfl, hk, HB⟩ := hrel
                obtain ⟨y2, y3⟩ := HYW.out wr HB.out
                go_upto_region 19 with fail
                go_cut [107] (fun t wx => ∃ (Wy : World), Wy = wx ∧ t = .bool (decide (k < M)) ∧ wx = wr)
                case first =>
                  by_cases h1 : k < ams.length
                  · by_cases h2 : k < 8
                    · have h3 := HM3.out k h1 h2
                      have h4 := decide_eq_true h3
                      have HD := Lib.hid h4
                      clear h3 h4
                      go_wp2_with fail
                      go_meet
                      exact ⟨_, rfl, by rw [HD.out] <;> first | rfl | (congr 1; first | exact decide_eq_true (by omega) | exact decide_eq_false (by omega)), rfl⟩
                    · have h4 : decide (k < M) = false := decide_eq_false (by omega)
                      have HD := Lib.hid h4
                      clear h4
                      go_wp2_with fail
                      go_meet
                      exact ⟨_, rfl, by rw [HD.out] <;> first | rfl | (congr 1; first | exact decide_eq_true (by omega) | exact decide_eq_false (by omega)), rfl⟩
                  · have h4 : decide (k < M) = false := decide_eq_false (by omega)
                    have HD := Lib.hid h4
                    clear h4
                    go_wp2_with fail
                    go_meet
                    exact ⟨_, rfl, by rw [HD.out] <;> first | rfl | (congr 1; first | exact decide_eq_true (by omega) | exact decide_eq_false (by omega)), rfl⟩
                case rest =>
                  obtain ⟨Wy, rfl, rfl, rfl⟩ := hcut
                  by_cases hkl : k < M
                  · rw [decide_eq_true hkl]
                    have hkn : k < ams.length := by omega
                    obtain ⟨ab, ao, rfl, _, hac⟩ := HAC.out (by omega)
                    obtain ⟨ad, rfl, e1⟩ := HN.out Wy i hin (below_then HB2.out HB.out)
                    have c0 := below_cell (below_then HB2.out HB.out) (hac _ _ (amtsV_get hkn).1)
                    have c1 := below_cell (below_then HB2.out HB.out) (hac _ _ (amtsV_get hkn).2)
                    rw [← Nat.add_assoc] at c1
                    generalize ams[k].1 = an at *
                    generalize ams[k].2 = am at *
                    generalize ns[i] = n1 at *
                    have HEX : Hid (∀ w', Below Wy.heap.size Wy w' → w'.cell? ⟨w.heap.size, 3, none⟩ = some (.slice (some ⟨ab, ao, none⟩) ams.length ac) ∧ w'.cell? ⟨ab, ao + k * 2, none⟩ = some (.string an) ∧ w'.cell? ⟨ab, ao + k * 2 + 1, none⟩ = some (.int .i64 am) ∧ w'.cell? (ad.add i) = some (.string n1)) := fun w' hb => ⟨below_cell hb y3, below_cell hb c0, below_cell hb c1, below_cell hb e1⟩
                    have KCC := Lib.hid (fun w' h => KC.out an n1 am w' h)
                    have hU0 := Lib.hid (Below.refl Wy.heap.size Wy)
                    have i1 : (0 : Int) ≤ (i : Int) := by omega
                    have i2 : (i : Int) < (K : Int) := by omega
                    have j1 : (0 : Int) ≤ (k : Int) := by omega
                    have j2 : (k : Int) < (ams.length : Int) := by omega
                    clear y2 hac
                    go_upto_region 21 with fail
                    go_cut [122] (fun t wx => ∃ (Wc : World), Wc = wx ∧ t = .bool false ∧ Below Wy.heap.size Wy wx)
                    case first =>
                      go_region_held3 (fun w' => w'.cell? ⟨w.heap.size, 3, none⟩ = some (.slice (some ⟨ab, ao, none⟩) ams.length ac) ∧ w'.cell? ⟨ab, ao + k * 2, none⟩ = some (.string an) ∧ w'.cell? ⟨ab, ao + k * 2 + 1, none⟩ = some (.int .i64 am) ∧ w'.cell? (ad.add i) = some (.string n1))
                        (first | exact ⟨y3, c0, c1, e1⟩ | exact HEX.out _ (by (repeat (first | exact hU0.out | exact HE1.out | refine below_drew ?_)); done) | go_keep)
                        ((go_at_call 43; refine (KCC.out _ (below_then HB.out (below_drew hU0.out))).mono ?_; rintro e x1 ⟨rfl, hb⟩; have HE1 := Lib.hid (below_then (below_drew hU0.out) hb); clear hb))
                      all_goals (
                        go_wp2
                        go_meet
                        exact ⟨_, rfl, rfl, by repeat (first | exact HE1.out | refine below_drew ?_)⟩)
                    case rest =>
                      obtain ⟨Wz, rfl, rfl, hbz⟩ := hcut
                      have HBz := Lib.hid (below_then HB.out hbz)
                      clear hbz y3 c0 c1 e1 HEX
                      go_wp2
                      go_roundw
                      case rel => exact ⟨k + 1, by go_num, hkl, HBz.out⟩
                      case measure => simp [intOf]; omega
                  · rw [decide_eq_false hkl]
                    go_wp2
                    go_roundw
                    case rel => exact ⟨i + 1, by go_num, hil, HB.out⟩
                    case measure => simp [intOf]; omega
        · obtain ⟨y2, y3⟩ := HYW.out wr HB.out
          obtain ⟨Fc, hFc⟩ : ∃ Fc, chainF st' ns = Fc := ⟨_, rfl⟩
          rw [hFc] at KCH KRC
          clear hFc
          go_wp2_with fail
          go_fit (KCH.out wr HB.out)
          rintro e x1 ⟨rfl, hb1⟩
          have HX1 := Lib.hid (Cel.new x1 23 #[.int .i64 Fc.n, .int .i64 Fc.d])
          have HC1 := Lib.hid (below_then HB.out (hb1.alloc hb1.size (.cells #[.int .i64 Fc.n, .int .i64 Fc.d] 23)))
          clear hb1 y2 y3
          obtain ⟨y2, y3⟩ := HYW.out _ HC1.out
          go_wp2_with fail
          go_fit (KRC.out _ HC1.out)
          rintro e x2 ⟨rfl, hb2⟩
          have HX2 := Lib.hid (Cel.new x2 23 #[.int .i64 Fc.n, .int .i64 Fc.d])
          have ha2 := hb2.alloc hb2.size (.cells #[.int .i64 Fc.n, .int .i64 Fc.d] 23)
          have HC2 := Lib.hid (below_then HB2.out (below_then HC1.out ha2))
          have y1 := HX1.out.below HX1.out.lt ha2
          have p0 := y1.cell 0 (.int .i64 Fc.n) rfl
          have p1 := y1.cell 1 (.int .i64 Fc.d) rfl
          have p2 := HX2.out.cell 0 (.int .i64 Fc.n) rfl
          have p3 := HX2.out.cell 1 (.int .i64 Fc.d) rfl
          clear hb2 ha2 y1 y2 y3
          go_wp2_with fail
          go_fit (KW.out _ HC2.out)
          rintro e x3 ⟨rfl, hb3⟩
          have HC3 := Lib.hid (below_then HC2.out hb3)
          clear hb3
          go_wp2
          go_ret
          exact ⟨rfl, HC3.out⟩
  · have h1 := HR0.out hE
    have h2 := HQ0.out hE
    subst h1
    subst h2
    clear hE HR0 HR1 HQ0 HQ1
    go_wp2_with fail
    go_fit (KW.out _ HB2.out)
    rintro e w3 ⟨rfl, hb3⟩
    have HB3 := Lib.hid (below_then HB2.out hb3)
    clear hb3
    go_wp2
    go_ret
    exact ⟨rfl, HB3.out⟩
end Go.Proofs.YtmibpncmebhbjaaDoor
