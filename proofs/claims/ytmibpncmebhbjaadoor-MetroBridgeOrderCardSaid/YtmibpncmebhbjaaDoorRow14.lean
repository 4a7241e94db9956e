/- MetroConvertBack: the walk. -/
import Derived.Test.YtmibpncmebhbjaaDoorP10
import Derived.Test.YtmibpncmebhbjaaDoorBck1
import Derived.Test.YtmibpncmebhbjaaDoorFld1
import Derived.Test.YtmibpncmebhbjaaDoorFou3
namespace Go.Proofs.YtmibpncmebhbjaaDoor
open Go Go.RowKit Go.Shelf
attribute [local go_sem] Oper.semAt_some rrV

theorem LadsV.fl4 {w : World} {v : Value} (h : LadsV w v fl) : ∃ b o c, v = .slice (some ⟨b, o, none⟩) 4 c ∧ 4 ≤ c ∧ ∀ k, k < 4 → w.cell? ⟨b, o + k * 2, none⟩ = some (.string (nmF k)) := by
  obtain ⟨A, c, rfl, hc, _, hk⟩ := h.open
  obtain ⟨b, o, _, _, rfl, _, _⟩ := hk 0 (by decide)
  refine ⟨b, o, c, rfl, hc, fun k hlt => ?_⟩
  obtain ⟨b', o', _, _, e, _, h1, _⟩ := hk k hlt
  injection e with e
  injection e with e1 e2
  subst e1 e2
  rw [h1, fl_get hlt]
  rfl

set_option maxRecDepth 100000 in
set_option maxHeartbeats 4000000 in
theorem convertBack_any (l : List Lk) (v : Value) (n x0 x1 x2 : Int) (w : World) (hz : Zw w) (hv : Sl w 6 v (lksV l)) (hbd : ∀ k ∈ l, LkBd k) (hn : Bd n) (h0 : Bd x0) (h1 : Bd x1) (h2 : Bd x2) :
    Calls Tryd.prog 5 #[v, .int .i64 n, .agg #[.int .i64 x0, .int .i64 x1, .int .i64 x2]] w fun e w' => e = .returned (.bool true) ∧ Below w.heap.size w w' := by
  have hY := Cel.new w 41 #[.int .i64 x0, .int .i64 x1, .int .i64 x2]
  have hw0 := below_alloc' w (.cells #[.int .i64 x0, .int .i64 x1, .int .i64 x2] 41)
  obtain ⟨W, hW⟩ : ∃ W, w.alloc (.cells #[.int .i64 x0, .int .i64 x1, .int .i64 x2] 41) = W := ⟨_, rfl⟩
  rw [hW] at hY hw0
  have HY := Lib.hid hY
  have HW := Lib.hid hw0
  have HF := Lib.hid (four_any l v W (hz.below hw0) (hv.below hw0) hbd)
  have HZ := Lib.hid (fun (w' : World) (hb : Below W.heap.size W w') => (hz.below hw0).below hb)
  have C9 := Lib.hid (fun (w' : World) (hb : Below W.heap.size W w') => works_any w' ((hz.below hw0).below hb))
  have K0 := Lib.hid (fun w' => bring4 x0 w' h0)
  have K1 := Lib.hid (fun w' => bring4 x1 w' h1)
  have K2 := Lib.hid (fun w' => bring4 x2 w' h2)
  have KN := Lib.hid (fun w' => bring_any n 1000000001 w' hn.1 hn.2 (by decide) (by decide))
  rw [show bringF n 1000000001 = n % 1000000001 from if_neg (by decide)] at KN
  have hn1 := Int.emod_nonneg n (show (1000000001 : Int) ≠ 0 by decide)
  have hn2 := Int.emod_lt_of_pos n (show (0 : Int) < 1000000001 by decide)
  have hf := m4_lt x0
  have ht := m4_lt x1
  have hh := m4_lt x2
  clear hv hbd hz hY hw0 hn h0 h1 h2
  generalize m4 x0 = f at *
  generalize m4 x1 = t at *
  generalize m4 x2 = h at *
  generalize n % 1000000001 = N at *
  go_enter Tryd.func5, Tryd.ntmps5
  go_wp2_with fail
  clear hW
  go_fit HF.out
  rintro e w1 ⟨v1, v2, rfl, hl, hs, hb1⟩
  have HB1 := Lib.hid hb1
  have HN : Hid (∀ E st', newF fl (linksB l) = (E, st') → Calls Tryd.prog 35 #[v1, v2] w1 fun e w' => ∃ r, e = .returned (.tuple #[r, .int .i64 E]) ∧ Below w1.heap.size w1 w' ∧ (E ≠ 0 → r = .pointer none) ∧
      (E = 0 → ∃ Bk bm lv gv fv, r = .pointer (some ⟨Bk, 0, none⟩) ∧ BookO w' w1.heap.size Bk bm lv gv fv st')) := fun E st' h => newbook_any fl (linksB l) v1 v2 w1 hl hs E st' h
  have hnew := new_links l
  have HEP := Lib.hid (ed_pos l)
  rcases hF : newF fl (linksB l) with ⟨E, st⟩
  rw [hF] at hnew
  simp only at hnew
  have HNB := Lib.hid (HN.out E st hF)
  obtain ⟨lb, lo, lc, rfl, hlc, hat⟩ := hl.fl4
  have HAT := Lib.hid hat
  clear hl hs hb1 HN hF HF hat
  go_wp2_with fail
  rcases hnew with ⟨rfl, hls, hgd, hsp⟩ | ⟨rfl, _⟩
  · go_fit HNB.out
    rintro e w2 ⟨r, rfl, hb2, _, hbk⟩
    obtain ⟨Bk, bm, lv, gv, fv, rfl, hbo⟩ := hbk rfl
    have HB2 := Lib.hid (below_then HB1.out hb2)
    have HBV := Lib.hid hbo.view
    have HG := Lib.hid hgd
    have HLS := Lib.hid hls
    have HSP := Lib.hid hsp
    have hy2 := HY.out.below HY.out.lt HB2.out
    have y0 := hy2.cell 0 (.int .i64 x0) rfl
    have y1 := hy2.cell 1 (.int .i64 x1) rfl
    have y2 := hy2.cell 2 (.int .i64 x2) rfl
    have z0 := below_cell hb2 (HAT.out f hf)
    have z1 := below_cell hb2 (HAT.out t ht)
    have z2 := below_cell hb2 (HAT.out h hh)
    have i1 : (0 : Int) ≤ (f : Int) := by omega
    have i2 : (f : Int) < 4 := by omega
    have i3 : (0 : Int) ≤ (t : Int) := by omega
    have i4 : (t : Int) < 4 := by omega
    have i5 : (0 : Int) ≤ (h : Int) := by omega
    have i6 : (h : Int) < 4 := by omega
    clear hbk hbo hb2 hgd hls hsp HNB hy2
    go_wp2_with fail
    go_quiet ((first | (go_at_call_of 36 (Value.int .i64 x0); exact quiet_left (K0.out _)) | (go_at_call_of 36 (Value.int .i64 x1); exact quiet_left (K1.out _)) | (go_at_call_of 36 (Value.int .i64 x2); exact quiet_left (K2.out _))))
    have HBQ := Lib.hid (below_drewN HB2.out nq)
    have HVV := Lib.hid (below_drewN' w2 nq)
    obtain ⟨V, hV⟩ : ∃ V, w2.drewN nq = V := ⟨_, rfl⟩
    rw [hV] at HBQ HVV
    have KC : Hid (∀ a b (m : Int), a < 4 → b < 4 → 0 ≤ m → m ≤ 1099511627776 → ∀ w', Below V.heap.size V w' → Calls Tryd.prog 37 #[.pointer (some ⟨Bk, 0, none⟩), .agg #[.string (nmF a), .int .i64 m], .string (nmF b)] w' fun e w'' => e = .returned (rrV (convG st a m b)) ∧ Below w'.heap.size w' w'') := fun a b m ha hb h0 h1 w' hw => by
      have hw2 := below_then HVV.out hw
      rw [← conv2 st HLS.out ha hb h0 h1]
      exact convert_any Bk bm lv gv fv st _ _ _ w' (HBV.out.below hw2) HG.out (HZ.out w' (HBQ.out.trans (hw.mono HBQ.out.size)))
    have KWH : Hid (∀ w', Below V.heap.size V w' → (convG st f N t).e = 0 → Calls Tryd.prog 38 #[.pointer (some ⟨Bk, 0, none⟩), .agg #[.string (nmF f), .int .i64 N], .string (nmF t)] w' fun e w'' => e = .returned (.tuple #[.agg #[.string (nmF t), .int .i64 ((convG st f N t).n / (convG st f N t).d)], .agg #[.int .i64 ((convG st f N t).n % (convG st f N t).d), .int .i64 (convG st f N t).d], .int .i64 0]) ∧ Below w'.heap.size w' w'') := fun w' hw he => by
      have hw2 := below_then HVV.out hw
      have := whole_any Bk bm lv gv fv st (nmF f) (nmF t) N w' (HBV.out.below hw2) HG.out (HZ.out w' (HBQ.out.trans (hw.mono HBQ.out.size)))
      have hc := conv2 st HLS.out hf ht hn1 (show N ≤ 1099511627776 by omega)
      unfold wholeV at this
      rw [hc, if_pos he, if_pos (convG_ok he).2.1] at this
      exact this
    have KAD : Hid (∀ w', Below V.heap.size V w' → (convG st f N t).e = 0 → Calls Tryd.prog 39 #[.agg #[.int .i64 ((convG st f N t).n / (convG st f N t).d), .int .i64 1], .agg #[.int .i64 ((convG st f N t).n % (convG st f N t).d), .int .i64 (convG st f N t).d]] w' fun e w'' => e = .returned (.tuple #[.agg #[.int .i64 (convG st f N t).n, .int .i64 (convG st f N t).d], .int .i64 0]) ∧ Below w'.heap.size w' w'') := fun w' hw he => by
      obtain ⟨f1, f2, f3, _, _⟩ := rat_floor (convG_ok he).2.1
      have := add_ok _ _ _ _ w' (HZ.out w' (HBQ.out.trans (hw.mono HBQ.out.size))) f1 f2
      simp only at this
      rw [f3, fit_rat (convG_ok he).2.1] at this
      exact this
    have KWK : Hid (∀ w', Below V.heap.size V w' → Calls Tryd.prog 27 #[] w' fun e w'' => e = .returned (.bool true) ∧ Below w'.heap.size w' w'') := fun w' hw => C9.out w' (HBQ.out.trans (hw.mono HBQ.out.size))
    have HBB := Lib.hid (below_then HW.out HBQ.out)
    have HBK := Lib.hid (fun he hr => conv_back HLS.out HSP.out HEP.out HG.out hf ht (c := h) hn1 (show N ≤ 1000000000 by omega) he hr)
    have HFL := Lib.hid (fun he => rat_floor (convG_ok (st := st) (a := f) (b := t) (n := N) he).2.1)
    have KC1 := Lib.hid (KC.out f t N hf ht hn1 (by omega))
    have KC3 := Lib.hid (KC.out f h N hf hh hn1 (by omega))
    have hre := convG_e st f N t
    go_wp2_with fail
    go_fit (KN.out V)
    rintro e w' ⟨rfl, rfl⟩
    clear hV y0 y1 y2 z0 z1 z2
    have HB0 := Lib.hid (below_alloc' V (.cells #[.string (nmF f), .int .i64 N] 51))
    have HM0 : Hid (∀ w', Below (V.alloc (.cells #[.string (nmF f), .int .i64 N] 51)).heap.size (V.alloc (.cells #[.string (nmF f), .int .i64 N] 51)) w' → w'.cell? ⟨V.heap.size, 0, none⟩ = some (.string (nmF f)) ∧ w'.cell? ⟨V.heap.size, 1, none⟩ = some (.int .i64 N)) := fun w' h => ⟨below_cell h ((Cel.new V 51 #[.string (nmF f), .int .i64 N]).cell 0 _ rfl), below_cell h ((Cel.new V 51 #[.string (nmF f), .int .i64 N]).cell 1 _ rfl)⟩
    obtain ⟨g0, g1⟩ := HM0.out _ (Below.refl _ _)
    obtain ⟨rr, hrr⟩ : ∃ rr, convG st f N t = rr := ⟨_, rfl⟩
    have HRR := Lib.hid hrr
    rw [hrr] at KC1 KWH KAD HBK HFL hre
    clear hrr
    obtain ⟨rn, rd, re⟩ := rr
    simp only at KWH KAD HBK HFL hre
    go_wp2_with fail
    go_fit (KC1.out _ HB0.out)
    rintro e w1 ⟨rfl, hb⟩
    clear g0 g1
    have HB1 := Lib.hid (below_then HB0.out (hb.alloc hb.size (.cells #[.int .i64 rn, .int .i64 rd] 23)))
    have HM1 : Hid (∀ w', Below (w1.alloc (.cells #[.int .i64 rn, .int .i64 rd] 23)).heap.size (w1.alloc (.cells #[.int .i64 rn, .int .i64 rd] 23)) w' → w'.cell? ⟨V.heap.size, 0, none⟩ = some (.string (nmF f)) ∧ w'.cell? ⟨V.heap.size, 1, none⟩ = some (.int .i64 N) ∧ w'.cell? ⟨w1.heap.size, 0, none⟩ = some (.int .i64 rn) ∧ w'.cell? ⟨w1.heap.size, 1, none⟩ = some (.int .i64 rd)) := fun w' h => by
      obtain ⟨q0, q1⟩ := HM0.out w' (below_then (hb.alloc hb.size (.cells #[.int .i64 rn, .int .i64 rd] 23)) h)
      exact ⟨q0, q1, below_cell h ((Cel.new w1 23 #[.int .i64 rn, .int .i64 rd]).cell 0 _ rfl), below_cell h ((Cel.new w1 23 #[.int .i64 rn, .int .i64 rd]).cell 1 _ rfl)⟩
    clear hb
    obtain ⟨g0, g1, g2, g3⟩ := HM1.out _ (Below.refl _ _)
    rcases hre with he | he | he
    · have KW2 := Lib.hid (fun w' hw => KWH.out w' hw he)
      have KA2 := Lib.hid (fun w' hw => KAD.out w' hw he)
      obtain ⟨_, _, _, fl1, fl2⟩ := HFL.out he
      have HBK2 := Lib.hid (fun hr => HBK.out he hr)
      subst he
      clear KWH KAD HBK HFL
      obtain ⟨q, hq⟩ : ∃ q, rn / rd = q := ⟨_, rfl⟩
      obtain ⟨m, hm⟩ : ∃ m, rn % rd = m := ⟨_, rfl⟩
      rw [hq, hm] at KW2 KA2
      rw [hm] at fl1 fl2 HBK2
      have HQ := Lib.hid hq
      clear hq hm
      have d1 : decide (m < 0) = false := decide_eq_false (by omega)
      have d2 : decide (rd ≤ m) = false := decide_eq_false (by omega)
      go_wp2_with fail
      go_fit (KW2.out _ HB1.out)
      rintro e w2 ⟨rfl, hb⟩
      clear g0 g1 g2 g3
      have HB2 := Lib.hid (below_then HB1.out ((hb.alloc hb.size (.cells #[.string (nmF t), .int .i64 q] 51)).alloc (Nat.le_trans hb.size (by simp)) (.cells #[.int .i64 m, .int .i64 rd] 23)))
      have HM2 : Hid (∀ w', Below ((w2.alloc (.cells #[.string (nmF t), .int .i64 q] 51)).alloc (.cells #[.int .i64 m, .int .i64 rd] 23)).heap.size ((w2.alloc (.cells #[.string (nmF t), .int .i64 q] 51)).alloc (.cells #[.int .i64 m, .int .i64 rd] 23)) w' → w'.cell? ⟨V.heap.size, 0, none⟩ = some (.string (nmF f)) ∧ w'.cell? ⟨V.heap.size, 1, none⟩ = some (.int .i64 N) ∧ w'.cell? ⟨w1.heap.size, 0, none⟩ = some (.int .i64 rn) ∧ w'.cell? ⟨w1.heap.size, 1, none⟩ = some (.int .i64 rd) ∧ w'.cell? ⟨w2.heap.size, 0, none⟩ = some (.string (nmF t)) ∧ w'.cell? ⟨w2.heap.size, 1, none⟩ = some (.int .i64 q) ∧ w'.cell? ⟨w2.heap.size + 1, 0, none⟩ = some (.int .i64 m) ∧ w'.cell? ⟨w2.heap.size + 1, 1, none⟩ = some (.int .i64 rd)) := fun w' h => by
        obtain ⟨q0, q1, q2, q3⟩ := HM1.out w' (below_then ((hb.alloc hb.size (.cells #[.string (nmF t), .int .i64 q] 51)).alloc (Nat.le_trans hb.size (by simp)) (.cells #[.int .i64 m, .int .i64 rd] 23)) h)
        exact ⟨q0, q1, q2, q3, below_cell h (((Cel.new w2 51 #[.string (nmF t), .int .i64 q]).alloc (.cells #[.int .i64 m, .int .i64 rd] 23)).cell 0 _ rfl), below_cell h (((Cel.new w2 51 #[.string (nmF t), .int .i64 q]).alloc (.cells #[.int .i64 m, .int .i64 rd] 23)).cell 1 _ rfl), below_cell h ((Cel.at (w2.alloc (.cells #[.string (nmF t), .int .i64 q] 51)) (w2.heap.size + 1) 23 #[.int .i64 m, .int .i64 rd] (by simp)).cell 0 _ rfl), below_cell h ((Cel.at (w2.alloc (.cells #[.string (nmF t), .int .i64 q] 51)) (w2.heap.size + 1) 23 #[.int .i64 m, .int .i64 rd] (by simp)).cell 1 _ rfl)⟩
      clear hb
      obtain ⟨g0, g1, g2, g3, g4, g5, g6, g7⟩ := HM2.out _ (Below.refl _ _)
      go_wp2_with fail
      go_fit (KA2.out _ HB2.out)
      rintro e w3 ⟨rfl, hb⟩
      clear g0 g1 g2 g3 g4 g5 g6 g7
      have HB3 := Lib.hid (below_then HB2.out (hb.alloc hb.size (.cells #[.int .i64 rn, .int .i64 rd] 23)))
      have HM3 : Hid (∀ w', Below (w3.alloc (.cells #[.int .i64 rn, .int .i64 rd] 23)).heap.size (w3.alloc (.cells #[.int .i64 rn, .int .i64 rd] 23)) w' → w'.cell? ⟨V.heap.size, 0, none⟩ = some (.string (nmF f)) ∧ w'.cell? ⟨V.heap.size, 1, none⟩ = some (.int .i64 N) ∧ w'.cell? ⟨w1.heap.size, 0, none⟩ = some (.int .i64 rn) ∧ w'.cell? ⟨w1.heap.size, 1, none⟩ = some (.int .i64 rd) ∧ w'.cell? ⟨w2.heap.size, 0, none⟩ = some (.string (nmF t)) ∧ w'.cell? ⟨w2.heap.size, 1, none⟩ = some (.int .i64 q) ∧ w'.cell? ⟨w2.heap.size + 1, 0, none⟩ = some (.int .i64 m) ∧ w'.cell? ⟨w2.heap.size + 1, 1, none⟩ = some (.int .i64 rd) ∧ w'.cell? ⟨w3.heap.size, 0, none⟩ = some (.int .i64 rn) ∧ w'.cell? ⟨w3.heap.size, 1, none⟩ = some (.int .i64 rd)) := fun w' h => by
        obtain ⟨q0, q1, q2, q3, q4, q5, q6, q7⟩ := HM2.out w' (below_then (hb.alloc hb.size (.cells #[.int .i64 rn, .int .i64 rd] 23)) h)
        exact ⟨q0, q1, q2, q3, q4, q5, q6, q7, below_cell h ((Cel.new w3 23 #[.int .i64 rn, .int .i64 rd]).cell 0 _ rfl), below_cell h ((Cel.new w3 23 #[.int .i64 rn, .int .i64 rd]).cell 1 _ rfl)⟩
      clear hb
      obtain ⟨g0, g1, g2, g3, g4, g5, g6, g7, g8, g9⟩ := HM3.out _ (Below.refl _ _)
      by_cases hm0 : m = 0
      · obtain ⟨hrd, hr0, hr1, hb1, hb2⟩ := HBK2.out hm0
        have bm : (m != 0) = false := by simpa using hm0
        subst hrd
        have hqr : rn = q := by have := HQ.out; rw [Int.ediv_one] at this; exact this
        subst hqr
        have KB := Lib.hid (fun w' hw => KC.out t f rn ht hf hr0 hr1 w' hw)
        have KX := Lib.hid (fun w' hw => KC.out t h rn ht hh hr0 hr1 w' hw)
        rw [hb1] at KB
        rw [hb2] at KX
        clear hm0 hb1 hb2 HBK2 HQ
        generalize convG st f N h = xx at *
        obtain ⟨xn, xd, xe⟩ := xx
        go_wp2_with fail
        go_fit (KB.out _ HB3.out)
        rintro e w4 ⟨rfl, hb⟩
        clear g0 g1 g2 g3 g4 g5 g6 g7 g8 g9
        have HB4 := Lib.hid (below_then HB3.out (hb.alloc hb.size (.cells #[.int .i64 N, .int .i64 1] 23)))
        have HM4 : Hid (∀ w', Below (w4.alloc (.cells #[.int .i64 N, .int .i64 1] 23)).heap.size (w4.alloc (.cells #[.int .i64 N, .int .i64 1] 23)) w' → w'.cell? ⟨V.heap.size, 0, none⟩ = some (.string (nmF f)) ∧ w'.cell? ⟨V.heap.size, 1, none⟩ = some (.int .i64 N) ∧ w'.cell? ⟨w1.heap.size, 0, none⟩ = some (.int .i64 rn) ∧ w'.cell? ⟨w1.heap.size, 1, none⟩ = some (.int .i64 1) ∧ w'.cell? ⟨w2.heap.size, 0, none⟩ = some (.string (nmF t)) ∧ w'.cell? ⟨w2.heap.size, 1, none⟩ = some (.int .i64 rn) ∧ w'.cell? ⟨w2.heap.size + 1, 0, none⟩ = some (.int .i64 m) ∧ w'.cell? ⟨w2.heap.size + 1, 1, none⟩ = some (.int .i64 1) ∧ w'.cell? ⟨w3.heap.size, 0, none⟩ = some (.int .i64 rn) ∧ w'.cell? ⟨w3.heap.size, 1, none⟩ = some (.int .i64 1) ∧ w'.cell? ⟨w4.heap.size, 0, none⟩ = some (.int .i64 N) ∧ w'.cell? ⟨w4.heap.size, 1, none⟩ = some (.int .i64 1)) := fun w' h => by
          obtain ⟨q0, q1, q2, q3, q4, q5, q6, q7, q8, q9⟩ := HM3.out w' (below_then (hb.alloc hb.size (.cells #[.int .i64 N, .int .i64 1] 23)) h)
          exact ⟨q0, q1, q2, q3, q4, q5, q6, q7, q8, q9, below_cell h ((Cel.new w4 23 #[.int .i64 N, .int .i64 1]).cell 0 _ rfl), below_cell h ((Cel.new w4 23 #[.int .i64 N, .int .i64 1]).cell 1 _ rfl)⟩
        clear hb
        obtain ⟨g0, g1, g2, g3, g4, g5, g6, g7, g8, g9, g10, g11⟩ := HM4.out _ (Below.refl _ _)
        go_wp2_with fail
        go_fit (KX.out _ HB4.out)
        rintro e w5 ⟨rfl, hb⟩
        clear g0 g1 g2 g3 g4 g5 g6 g7 g8 g9 g10 g11
        have HB5 := Lib.hid (below_then HB4.out (hb.alloc hb.size (.cells #[.int .i64 xn, .int .i64 xd] 23)))
        have HM5 : Hid (∀ w', Below (w5.alloc (.cells #[.int .i64 xn, .int .i64 xd] 23)).heap.size (w5.alloc (.cells #[.int .i64 xn, .int .i64 xd] 23)) w' → w'.cell? ⟨V.heap.size, 0, none⟩ = some (.string (nmF f)) ∧ w'.cell? ⟨V.heap.size, 1, none⟩ = some (.int .i64 N) ∧ w'.cell? ⟨w1.heap.size, 0, none⟩ = some (.int .i64 rn) ∧ w'.cell? ⟨w1.heap.size, 1, none⟩ = some (.int .i64 1) ∧ w'.cell? ⟨w2.heap.size, 0, none⟩ = some (.string (nmF t)) ∧ w'.cell? ⟨w2.heap.size, 1, none⟩ = some (.int .i64 rn) ∧ w'.cell? ⟨w2.heap.size + 1, 0, none⟩ = some (.int .i64 m) ∧ w'.cell? ⟨w2.heap.size + 1, 1, none⟩ = some (.int .i64 1) ∧ w'.cell? ⟨w3.heap.size, 0, none⟩ = some (.int .i64 rn) ∧ w'.cell? ⟨w3.heap.size, 1, none⟩ = some (.int .i64 1) ∧ w'.cell? ⟨w4.heap.size, 0, none⟩ = some (.int .i64 N) ∧ w'.cell? ⟨w4.heap.size, 1, none⟩ = some (.int .i64 1) ∧ w'.cell? ⟨w5.heap.size, 0, none⟩ = some (.int .i64 xn) ∧ w'.cell? ⟨w5.heap.size, 1, none⟩ = some (.int .i64 xd)) := fun w' h => by
          obtain ⟨q0, q1, q2, q3, q4, q5, q6, q7, q8, q9, q10, q11⟩ := HM4.out w' (below_then (hb.alloc hb.size (.cells #[.int .i64 xn, .int .i64 xd] 23)) h)
          exact ⟨q0, q1, q2, q3, q4, q5, q6, q7, q8, q9, q10, q11, below_cell h ((Cel.new w5 23 #[.int .i64 xn, .int .i64 xd]).cell 0 _ rfl), below_cell h ((Cel.new w5 23 #[.int .i64 xn, .int .i64 xd]).cell 1 _ rfl)⟩
        clear hb
        obtain ⟨g0, g1, g2, g3, g4, g5, g6, g7, g8, g9, g10, g11, g12, g13⟩ := HM5.out _ (Below.refl _ _)
        go_wp2_with fail
        go_fit (KC3.out _ HB5.out)
        rintro e w6 ⟨rfl, hb⟩
        clear g0 g1 g2 g3 g4 g5 g6 g7 g8 g9 g10 g11 g12 g13
        have HB6 := Lib.hid (below_then HB5.out (hb.alloc hb.size (.cells #[.int .i64 xn, .int .i64 xd] 23)))
        have HM6 : Hid (∀ w', Below (w6.alloc (.cells #[.int .i64 xn, .int .i64 xd] 23)).heap.size (w6.alloc (.cells #[.int .i64 xn, .int .i64 xd] 23)) w' → w'.cell? ⟨V.heap.size, 0, none⟩ = some (.string (nmF f)) ∧ w'.cell? ⟨V.heap.size, 1, none⟩ = some (.int .i64 N) ∧ w'.cell? ⟨w1.heap.size, 0, none⟩ = some (.int .i64 rn) ∧ w'.cell? ⟨w1.heap.size, 1, none⟩ = some (.int .i64 1) ∧ w'.cell? ⟨w2.heap.size, 0, none⟩ = some (.string (nmF t)) ∧ w'.cell? ⟨w2.heap.size, 1, none⟩ = some (.int .i64 rn) ∧ w'.cell? ⟨w2.heap.size + 1, 0, none⟩ = some (.int .i64 m) ∧ w'.cell? ⟨w2.heap.size + 1, 1, none⟩ = some (.int .i64 1) ∧ w'.cell? ⟨w3.heap.size, 0, none⟩ = some (.int .i64 rn) ∧ w'.cell? ⟨w3.heap.size, 1, none⟩ = some (.int .i64 1) ∧ w'.cell? ⟨w4.heap.size, 0, none⟩ = some (.int .i64 N) ∧ w'.cell? ⟨w4.heap.size, 1, none⟩ = some (.int .i64 1) ∧ w'.cell? ⟨w5.heap.size, 0, none⟩ = some (.int .i64 xn) ∧ w'.cell? ⟨w5.heap.size, 1, none⟩ = some (.int .i64 xd) ∧ w'.cell? ⟨w6.heap.size, 0, none⟩ = some (.int .i64 xn) ∧ w'.cell? ⟨w6.heap.size, 1, none⟩ = some (.int .i64 xd)) := fun w' h => by
          obtain ⟨q0, q1, q2, q3, q4, q5, q6, q7, q8, q9, q10, q11, q12, q13⟩ := HM5.out w' (below_then (hb.alloc hb.size (.cells #[.int .i64 xn, .int .i64 xd] 23)) h)
          exact ⟨q0, q1, q2, q3, q4, q5, q6, q7, q8, q9, q10, q11, q12, q13, below_cell h ((Cel.new w6 23 #[.int .i64 xn, .int .i64 xd]).cell 0 _ rfl), below_cell h ((Cel.new w6 23 #[.int .i64 xn, .int .i64 xd]).cell 1 _ rfl)⟩
        clear hb
        obtain ⟨g0, g1, g2, g3, g4, g5, g6, g7, g8, g9, g10, g11, g12, g13, g14, g15⟩ := HM6.out _ (Below.refl _ _)
        go_wp2_with fail
        go_fit (KWK.out _ HB6.out)
        rintro e w7 ⟨rfl, hb⟩
        go_wp2
        go_ret
        exact ⟨rfl, below_then HBB.out (below_then HB6.out hb)⟩
      · have bm : (m != 0) = true := by simpa using hm0
        clear hm0
        go_wp2_with fail
        go_fit (KWK.out _ HB3.out)
        rintro e w4 ⟨rfl, hb⟩
        go_wp2
        go_ret
        exact ⟨rfl, below_then HBB.out (below_then HB3.out hb)⟩
    · subst he
      go_wp2_with fail
      go_fit (KWK.out _ HB1.out)
      rintro e w2 ⟨rfl, hb⟩
      go_wp2
      go_ret
      exact ⟨rfl, below_then HBB.out (below_then HB1.out hb)⟩
    · subst he
      go_wp2_with fail
      go_fit (KWK.out _ HB1.out)
      rintro e w2 ⟨rfl, hb⟩
      go_wp2
      go_ret
      exact ⟨rfl, below_then HBB.out (below_then HB1.out hb)⟩
  · go_fit HNB.out
    rintro e w2 ⟨r, rfl, hb2, hno, _⟩
    obtain rfl := hno (by decide)
    have HB2 := Lib.hid (below_then HB1.out hb2)
    clear hno hb2 HNB
    go_wp2_with fail
    go_fit (C9.out w2 HB2.out)
    rintro e w3 ⟨rfl, hb3⟩
    go_wp2
    go_ret
    exact ⟨rfl, below_then HW.out (below_then HB2.out hb3)⟩
end Go.Proofs.YtmibpncmebhbjaaDoor
