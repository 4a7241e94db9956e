/- MetroBookMakes: the walk. -/
import Derived.Test.YtmibpncmebhbjaaDoorP10
import Derived.Test.YtmibpncmebhbjaaDoorRbk8
import Derived.Test.YtmibpncmebhbjaaDoorMLad
import Derived.Test.YtmibpncmebhbjaaDoorTrn2
import Derived.Deep.RegionHeld3
import Derived.Deep.DeepCutAuto
namespace Go.Proofs.YtmibpncmebhbjaaDoor
open Go Go.RowKit Go.Shelf
attribute [local go_sem] Oper.semAt_some rrV

/-- What Ladder returns for a name. -/
def ladN (st : St) (s : ByteArray) : ByteArray := if idxE st.ls s = 0 then (ladOf st (idxI st.ls s)).1 else ⟨#[]⟩
def ladU (st : St) (s : ByteArray) : List Un := if idxE st.ls s = 0 then (ladOf st (idxI st.ls s)).2 else []
def ladE (st : St) (s : ByteArray) : Int := if idxE st.ls s = 0 then 0 else 4
theorem mladder_any (Bk bm : Nat) (lv gv fv : Value) (st : St) (nm : ByteArray) (w : World) (hb : BookV w Bk bm lv gv fv st) (hg : Good st) :
    Calls Tryd.prog 70 #[.pointer (some ⟨Bk, 0, none⟩), .string nm] w fun e w' => ∃ A' c', e = .returned (.tuple #[.agg #[.string (ladN st nm), .slice A' (ladU st nm).length c'], .int .i64 (ladE st nm)]) ∧ Below w.heap.size w w' ∧ Sl w' 2 (.slice A' (ladU st nm).length c') (unitsV (ladU st nm)) := by
  by_cases h : idxE st.ls nm = 0
  · rw [ladN, ladU, ladE, if_pos h, if_pos h, if_pos h]
    exact mladder_yes Bk bm lv gv fv st nm w hb hg h
  · rw [ladN, ladU, ladE, if_neg h, if_neg h, if_neg h]
    exact (mladder_no Bk bm lv gv fv st nm w hb h).mono fun e w' ⟨h1, h2⟩ => ⟨none, 0, h1, h2, Sl.nil0 _ _⟩
theorem rladder_any (Bk : Nat) (lv bv : Value) (st : St) (bs : List Br) (nm : ByteArray) (w : World) (hb : RBk w Bk lv bv st.ls bs) (hg : Good st) :
    Calls Tryd.prog 71 #[.pointer (some ⟨Bk, 0, none⟩), .string nm] w fun e w' => ∃ A' c', e = .returned (.tuple #[.agg #[.string (ladN st nm), .slice A' (ladU st nm).length c'], .int .i64 (ladE st nm)]) ∧ Below w.heap.size w w' ∧ Sl w' 2 (.slice A' (ladU st nm).length c') (unitsV (ladU st nm)) := by
  by_cases h : idxE st.ls nm = 0
  · rw [ladN, ladU, ladE, if_pos h, if_pos h, if_pos h]
    exact rladder_yes Bk lv bv st bs nm w hb hg h
  · rw [ladN, ladU, ladE, if_neg h, if_neg h, if_neg h]
    exact (rladder_no Bk lv bv st bs nm w hb hg.few h).mono fun e w' ⟨h1, h2⟩ => ⟨none, 0, h1, h2, Sl.nil0 _ _⟩

set_option maxRecDepth 100000 in
set_option maxHeartbeats 8000000 in
theorem bookMakes_any (vl vb vn va : Value) (ls : List La) (bs : List Br) (ns : List ByteArray) (w : World) (hz : Zw w) (hl : LadsV w vl ls) (hb : Sl w 6 vb (brsV bs)) (hn : Sl w 1 vn (namesV ns)) (hsh : ∃ A n c, va = .slice A n c) :
    Calls Tryd.prog 16 #[.agg #[vl, vb, vn, va]] w fun e w' => e = .returned (.bool true) ∧ Below w.heap.size w w' := by
  obtain ⟨LA, lc, rfl, _, _, _⟩ := hl.open
  obtain ⟨BA, bn, bc, rfl, _⟩ := hb.shape
  obtain ⟨NA, nc, rfl, hnc, hncm, hncell⟩ := hn.open1
  rw [namesV_length] at hnc
  rw [namesV_length]
  obtain ⟨AA, an, ac, rfl⟩ := hsh
  obtain ⟨E, st', hF⟩ : ∃ E st', newF ls bs = (E, st') := ⟨_, _, rfl⟩
  have HF0 := Lib.hid hF
  have HZ := Lib.hid (fun w' (hb : Below w.heap.size w w') => hz.below hb)
  have KW : Hid (∀ w', Below w.heap.size w w' → Calls Tryd.prog 27 #[] w' fun e w'' => e = .returned (.bool true) ∧ Below w'.heap.size w' w'') := fun w' hb => works_any w' (HZ.out w' hb)
  have KN := Lib.hid (fun w' (h : Below w.heap.size w w') => newbook_any ls bs _ _ w' (hl.below h) (hb.below h) E st' hF)
  have KR := Lib.hid (fun w' (h : Below w.heap.size w w') => rnew_any ls bs _ _ w' (hl.below h) (hb.below h) E st' hF)
  have Y := Cel.new w 60 #[.slice LA ls.length lc, .slice BA bn bc, .slice NA ns.length nc, .slice AA an ac]
  have HB0 := Lib.hid (below_alloc' w (.cells #[.slice LA ls.length lc, .slice BA bn bc, .slice NA ns.length nc, .slice AA an ac] 60))
  have HNC := Lib.hid hncell
  have HY := Lib.hid Y
  have y0 := Y.cell 0 (.slice LA ls.length lc) rfl
  have y1 := Y.cell 1 (.slice BA bn bc) rfl
  clear hz hl hb hn hncell Y hF
  go_enter Tryd.func16, Tryd.ntmps16
  go_wp2_with fail
  go_fit (KN.out _ HB0.out)
  rintro e w1 ⟨r, rfl, hb1, hr0, hr1⟩
  have HB1 := Lib.hid (below_then HB0.out hb1)
  have HR0 := Lib.hid hr0
  have HR1 := Lib.hid hr1
  have HY1 := Lib.hid (HY.out.below HY.out.lt hb1)
  clear hb1 hr0 hr1 y0 y1
  have y0 := HY1.out.cell 0 (.slice LA ls.length lc) rfl
  have y1 := HY1.out.cell 1 (.slice BA bn bc) rfl
  go_wp2_with fail
  go_fit (KR.out _ HB1.out)
  intro e w2 hpost
  obtain ⟨r', rfl, hb2, hq0, hq1⟩ := hpost
  have HB2 := Lib.hid (below_then HB1.out hb2)
  have HY2 := Lib.hid (HY1.out.below HY1.out.lt hb2)
  have HQ0 := Lib.hid hq0
  have HQ1 := Lib.hid hq1
  have HB12 := Lib.hid hb2
  clear hb2 hq0 hq1 y0 y1 KN KR
  have b0 : (E != E) = false := by simp
  by_cases hE : E = 0
  · obtain ⟨Bk, bm, lv, gv, fv, rfl, hbo⟩ := HR1.out hE
    obtain ⟨Bk', lv', bv', rfl, hrb, hbd, hls⟩ := HQ1.out hE
    have HV2 := Lib.hid (hbo.view.below HB12.out)
    have HRB2 := Lib.hid (show RBk w2 Bk' lv' bv' st'.ls bs by rw [hls]; exact hrb)
    have HBD := Lib.hid hbd
    have HGD := Lib.hid hbd.good
    have HLS := Lib.hid hls
    have hfew := hbd.good.few
    have hbs64 : bs.length ≤ 64 := by
      have := HF0.out
      unfold newF at this
      split at this
      · injection this with h1 h2; omega
      · omega
    clear hE hbo hrb hbd hls HR0 HR1 HQ0 HQ1
    go_wp2_with fail
    go_fit (names_any Bk bm lv gv fv st' w2 HV2.out HGD.out)
    rintro e w3 ⟨v3, rfl, hs3, hb3⟩
    obtain ⟨A3, n3, c3, rfl, hs3⟩ := hs3.shape
    have HB3 := Lib.hid (below_then HB2.out hb3)
    have HV3 := Lib.hid (HV2.out.below hb3)
    have HRB3 := Lib.hid (HRB2.out.below hb3)
    have HY3 := Lib.hid (HY2.out.below HY2.out.lt hb3)
    have HS3 := Lib.hid hs3
    clear hb3 hs3 HV2 HRB2 HY2
    go_wp2_with fail
    go_fit (rnames_any Bk' lv' bv' st'.ls bs w3 HRB3.out hfew)
    rintro e w4 ⟨A4, c4, rfl, ho4, hb4⟩
    have HB4 := Lib.hid (below_then HB3.out hb4)
    have HV4 := Lib.hid (HV3.out.below hb4)
    have HRB4 := Lib.hid (HRB3.out.below hb4)
    have HY4 := Lib.hid (HY3.out.below HY3.out.lt hb4)
    have HS4 := Lib.hid (HS3.out.below hb4)
    have HO4 := Lib.hid (Sl.of_own ho4)
    clear hb4 ho4 HV3 HRB3 HY3 HS3
    go_wp2_with fail
    go_fit (eqTexts_same _ _ (nmsOf st'.ls) _ HS4.out HO4.out)
    rintro e w5 ⟨rfl, hb5⟩
    have HB5 := Lib.hid (below_then HB4.out hb5)
    have HV5 := Lib.hid (HV4.out.below hb5)
    have HRB5 := Lib.hid (HRB4.out.below hb5)
    have HY5 := Lib.hid (HY4.out.below HY4.out.lt hb5)
    clear hb5 HV4 HRB4 HY4 HS4 HO4
    go_wp2_with fail
    go_fit (rnames_any Bk' lv' bv' st'.ls bs w5 HRB5.out hfew)
    rintro e w6 ⟨A6, c6, rfl, ho6, hb6⟩
    have HO6 := Lib.hid (own_alloc (o := .cells #[.string ⟨#[]⟩] 9) ho6)
    have HS6 := Lib.hid (Sl.new (s := 1) w6 9 1 1 #[.string ⟨#[]⟩] rfl (Nat.le_refl _) (by decide))
    have HB6 := Lib.hid (hb6.alloc hb6.size (.cells #[.string ⟨#[]⟩] 9))
    have hz6 := hb6.size
    clear hb6 ho6
    go_wp2_with (at_builtin; refine appStr (.tmp 50) (.tmp 51) rfl rfl rfl rfl HO6.out HS6.out (by simp [Value.oneCell']) (N := st'.ls.length + 1) (by simp) (by omega) (by simp; omega) ?_; intro A7 c7 w7 hap; have HB7 := Lib.hid (below_of_own hap.grown HO6.out HB6.out (Nat.le_refl _)); have HO7 := Lib.hid hap.own; clear hap)
    obtain ⟨K, hK⟩ : ∃ K, min ns.length 20 = K := ⟨_, rfl⟩
    have HKL := Lib.hid hK
    have hK1 : K ≤ ns.length := by omega
    have hK2 : K ≤ 20 := by omega
    have hK3 : ∀ k, k < ns.length → k < 20 → k < K := fun k h1 h2 => by omega
    have HK3 := Lib.hid hK3
    clear hK hK3
    have HN1 := Lib.hid (nmsOf_length st'.ls)
    go_loopw [7, 8] (fun v i wr => ∃ (k : Nat) (A : Option Addr) (c m : Nat), i = .int .i64 k ∧ k ≤ K ∧ m = st'.ls.length + 1 + k ∧ v = .slice A m c ∧ Hid (wr.ownsRow w5.heap.size 9 1 (.slice A m c) m (namesV (nmsOf st'.ls ++ [(⟨#[]⟩ : ByteArray)] ++ ns.take k))) ∧ Hid (Below w5.heap.size w5 wr)) (fun _ i _ => 20 - (intOf i).toNat)
    case atStart => exact ⟨0, A7, c7, _, rfl, by omega, rfl, rfl, (by have := HO7.out; rw [List.take_zero, List.append_nil, namesV_append]; exact this), HB7.out⟩
    case round =>
      obtain ⟨k, A, c, m, rfl, hk, hm, rfl, HO, HB⟩ := hrel
      have HM := Lib.hid hm
      have hm64 : m ≤ 100 := by omega
      clear hm
      have z2 := (HY5.out.below HY5.out.lt HB.out).cell 2 (.slice NA ns.length nc) rfl
      have HBW := Lib.hid (below_then HB5.out HB.out)
      go_upto_region 11 with fail
      go_cut [61] (fun t wx => ∃ (Wx : World), Wx = wx ∧ t = .bool (decide (k < K)) ∧ wx = wr)
      case first =>
        by_cases h1 : k < ns.length
        · by_cases h2 : k < 20
          · have h3 := HK3.out k h1 h2
            have h4 := decide_eq_true h3
            have HD := Lib.hid h4
            clear h3 h4
            go_wp2_with fail
            go_meet
            exact ⟨_, rfl, by rw [HD.out] <;> first | rfl | (congr 1; first | exact decide_eq_true (by omega) | exact decide_eq_false (by omega)), rfl⟩
          · have h4 : decide (k < K) = false := decide_eq_false (by omega)
            have HD := Lib.hid h4
            clear h4
            go_wp2_with fail
            go_meet
            exact ⟨_, rfl, by rw [HD.out] <;> first | rfl | (congr 1; first | exact decide_eq_true (by omega) | exact decide_eq_false (by omega)), rfl⟩
        · have h4 : decide (k < K) = false := decide_eq_false (by omega)
          have HD := Lib.hid h4
          clear h4
          go_wp2_with fail
          go_meet
          exact ⟨_, rfl, by rw [HD.out] <;> first | rfl | (congr 1; first | exact decide_eq_true (by omega) | exact decide_eq_false (by omega)), rfl⟩
      case rest =>
        obtain ⟨Wx, rfl, rfl, rfl⟩ := hcut
        by_cases hlt : k < K
        · rw [decide_eq_true hlt]
          have hkn : k < ns.length := by omega
          obtain ⟨ad, rfl, q0⟩ := HNC.out k (.string ns[k]) (by simp [namesV, hkn])
          have q1 := below_cell HBW.out q0
          have HT := Lib.hid (show ns.take (k + 1) = ns.take k ++ [ns[k]] from List.take_succ_eq_append_getElem hkn)
          have k1 : (0 : Int) ≤ (k : Int) := by omega
          have k2 : (k : Int) < (ns.length : Int) := by omega
          generalize ns[k] = x at *
          have HO2 := Lib.hid (own_alloc (o := .cells #[.string x] 9) HO.out)
          have HS2 := Lib.hid (Sl.new (s := 1) Wx 9 1 1 #[.string x] rfl (Nat.le_refl _) (by decide))
          have HB2 := Lib.hid (HB.out.alloc HB.out.size (.cells #[.string x] 9))
          have hz2 := HB.out.size
          clear q0
          go_wp2_with (at_builtin; refine appStr (.tmp 64) (.tmp 70) rfl rfl rfl rfl HO2.out HS2.out (by simp [Value.oneCell']) (N := m + 1) (by simp) (by omega) (by simp; omega) ?_; intro A8 c8 w8 hap; have HB8 := Lib.hid (below_of_own hap.grown HO2.out HB2.out (Nat.le_refl _)); have HO8 := Lib.hid hap.own; clear hap)
          clear q1 z2
          go_wp2
          go_roundw
          case rel => exact ⟨k + 1, A8, c8, m + 1, by go_num, hlt, by have := HM.out; omega, rfl, (by have := HO8.out; rw [HT.out, ← List.append_assoc, namesV_append]; exact this), HB8.out⟩
          case measure => simp [intOf]; omega
        · rw [decide_eq_false hlt]
          have hke : k = K := by omega
          have HNL := Lib.hid (show m = (nmsOf st'.ls ++ [(⟨#[]⟩ : ByteArray)] ++ ns.take K).length by have := HM.out; simp [nmsOf_length]; omega)
          have HSL := Lib.hid (show Sl Wx 1 (.slice A m c) (namesV (nmsOf st'.ls ++ [(⟨#[]⟩ : ByteArray)] ++ ns.take K)) by have := Sl.of_own HO.out; rwa [hke] at this)
          have HV8 := Lib.hid (HV5.out.below HB.out)
          have HRB8 := Lib.hid (HRB5.out.below HB.out)
          obtain ⟨NL, hNL⟩ : ∃ NL, nmsOf st'.ls ++ [(⟨#[]⟩ : ByteArray)] ++ ns.take K = NL := ⟨_, rfl⟩
          rw [hNL] at HNL HSL
          clear hke hNL z2 HO HB HO7 HB7
          obtain ⟨_, _, _, ea, _, hmc, hcm, hcl⟩ := HSL.out.open2 (by decide)
          cases ea
          have HCL := Lib.hid hcl
          clear hcl
          go_wp2
          go_loopw [9] (fun t9 wr => ∃ i : Nat, t9 = .int .i64 i ∧ i ≤ m ∧ Hid (Below Wx.heap.size Wx wr)) (fun t9 _ => m - (intOf t9).toNat)
          case atStart => exact ⟨0, rfl, by omega, Below.refl _ _⟩
          case round =>
            obtain ⟨i, rfl, hi, HB⟩ := hrel
            by_cases hil : i < m
            · obtain ⟨lb, lo, rfl, _, hce⟩ := HCL.out (by omega)
              have hiN : i < NL.length := by rw [← HNL.out]; exact hil
              obtain ⟨s, hs⟩ : ∃ s, NL[i] = s := ⟨_, rfl⟩
              have HCI : Hid (∀ w', Below Wx.heap.size Wx w' → w'.cell? ⟨lb, lo + i, none⟩ = some (.string s)) := fun w' hb => below_cell hb (hce i _ (by simp [namesV, hiN, hs]))
              have KLA := Lib.hid (fun w' (hb : Below Wx.heap.size Wx w') => mladder_any Bk bm lv gv fv st' s w' (HV8.out.below hb) HGD.out)
              have KLB := Lib.hid (fun w' (hb : Below Wx.heap.size Wx w') => rladder_any Bk' lv' bv' st' bs s w' (HRB8.out.below hb) HGD.out)
              have KGA := Lib.hid (fun w' (hb : Below Wx.heap.size Wx w') => group_any Bk bm lv gv fv st' s w' (HV8.out.below hb) HGD.out)
              have KGB := Lib.hid (fun w' (hb : Below Wx.heap.size Wx w') => rgroup_any Bk' lv' bv' st' bs s w' (HRB8.out.below hb) HBD.out hbs64)
              generalize ladN st' s = X at *
              generalize ladU st' s = US at *
              generalize ladE st' s = EE at *
              generalize groupF st' s = GN at *
              have i1 : (0 : Int) ≤ (i : Int) := by omega
              have i2 : (i : Int) < (m : Int) := by omega
              have c0 := HCI.out wr HB.out
              have be : (EE != EE) = false := by simp
              clear hce hs hiN
              go_wp2_with fail
              go_fit (KLA.out wr HB.out)
              rintro e v1 ⟨A1, c1, rfl, hb1, hs1⟩
              have HD1 := Lib.hid ((below_then HB.out hb1).alloc (below_then HB.out hb1).size (.cells #[.string X, .slice A1 US.length c1] 33))
              have HX1 := Lib.hid (Cel.new v1 33 #[.string X, .slice A1 US.length c1])
              have HS1 := Lib.hid (hs1.below (below_alloc' v1 (.cells #[.string X, .slice A1 US.length c1] 33)))
              clear hb1 hs1 c0
              have c0 := HCI.out _ HD1.out
              go_wp2_with fail
              go_fit (KLB.out _ HD1.out)
              rintro e v2 ⟨A2, c2, rfl, hb2, hs2⟩
              have HD2 := Lib.hid ((below_then HD1.out hb2).alloc (below_then HD1.out hb2).size (.cells #[.string X, .slice A2 US.length c2] 33))
              have HX2 := Lib.hid ((HX1.out.below HX1.out.lt hb2).alloc (.cells #[.string X, .slice A2 US.length c2] 33))
              have HX3 := Lib.hid (Cel.new v2 33 #[.string X, .slice A2 US.length c2])
              have HS2 := Lib.hid ((HS1.out.below hb2).below (below_alloc' v2 (.cells #[.string X, .slice A2 US.length c2] 33)))
              have HS3 := Lib.hid (hs2.below (below_alloc' v2 (.cells #[.string X, .slice A2 US.length c2] 33)))
              clear hb2 hs2 c0
              obtain ⟨V, hV⟩ : ∃ V, v2.alloc (.cells #[.string X, .slice A2 US.length c2] 33) = V := ⟨_, rfl⟩
              rw [hV] at HD2 HX2 HX3 HS2 HS3
              have hV0 := Lib.hid (Below.refl V.heap.size V)
              have HEX : Hid (∀ w', Below V.heap.size V w' → w'.cell? ⟨v1.heap.size, 0, none⟩ = some (.string X) ∧ w'.cell? ⟨v1.heap.size, 1, none⟩ = some (.slice A1 US.length c1) ∧ w'.cell? ⟨v2.heap.size, 0, none⟩ = some (.string X) ∧ w'.cell? ⟨v2.heap.size, 1, none⟩ = some (.slice A2 US.length c2) ∧ w'.cell? ⟨lb, lo + i, none⟩ = some (.string s)) := fun w' hb => by
                have h1 := HX2.out.below HX2.out.lt hb
                have h2 := HX3.out.below HX3.out.lt hb
                exact ⟨h1.cell 0 _ rfl, h1.cell 1 _ rfl, h2.cell 0 _ rfl, h2.cell 1 _ rfl, HCI.out w' (below_then HD2.out hb)⟩
              obtain ⟨g0, g1, g2, g3, g4⟩ := HEX.out V (Below.refl _ _)
              go_upto_region 19 with fail
              clear hV
              go_cut [120] (fun t wx => ∃ (Wy : World), Wy = wx ∧ t = .bool false ∧ Below V.heap.size V wx)
              case first =>
                go_region_held3 (fun w' => w'.cell? ⟨v1.heap.size, 0, none⟩ = some (.string X) ∧ w'.cell? ⟨v1.heap.size, 1, none⟩ = some (.slice A1 US.length c1) ∧ w'.cell? ⟨v2.heap.size, 0, none⟩ = some (.string X) ∧ w'.cell? ⟨v2.heap.size, 1, none⟩ = some (.slice A2 US.length c2) ∧ w'.cell? ⟨lb, lo + i, none⟩ = some (.string s)) (first | exact ⟨g0, g1, g2, g3, g4⟩ | exact HEX.out _ (by (repeat (first | exact hV0.out | exact HE1.out | exact HE2.out | exact HE3.out | exact HE4.out | refine below_drew ?_)); done) | go_keep)
                  (first
                  | (go_at_call 33; refine (sameLadder_yes X A1 A2 c1 c2 US _ (HS2.out.drew) (HS3.out.drew)).mono ?_; rintro e x1 ⟨rfl, hb⟩; have HE1 := Lib.hid (show Below V.heap.size V x1 from below_undrew hb); clear hb)
                  | (go_at_call 52; refine (KGA.out _ (below_then HD2.out HE1.out)).mono ?_; rintro e x2 ⟨ga, rfl, hs, hb⟩; obtain ⟨A5, n5, c5, rfl, hs⟩ := hs.shape; have HE2 := Lib.hid (below_then HE1.out hb); have HGA := Lib.hid hs; clear hb hs)
                  | (go_at_call 72; refine (KGB.out _ (below_then HD2.out HE2.out)).mono ?_; rintro e x3 ⟨gb, rfl, hs, hb⟩; obtain ⟨A6, n6, c6, rfl, hs⟩ := hs.shape; have HE3 := Lib.hid (below_then HE2.out hb); have HGB := Lib.hid hs; have HGA2 := Lib.hid (HGA.out.below hb); clear hb hs)
                  | (go_at_call 51; refine (eqTexts_same _ _ GN _ HGA2.out HGB.out).mono ?_; rintro e x4 ⟨rfl, hb⟩; have HE4 := Lib.hid (below_then HE3.out hb); clear hb))
                all_goals (
                  go_wp2
                  go_meet
                  exact ⟨_, rfl, rfl, by repeat (first | exact HE4.out | refine below_drew ?_)⟩)
              case rest =>
                obtain ⟨Wy, rfl, rfl, hby⟩ := hcut
                have HFY := Lib.hid (below_then HD2.out hby)
                clear hby g0 g1 g2 g3 g4
                go_wp2
                go_roundw
                case rel => exact ⟨i + 1, by go_num, hil, HFY.out⟩
                case measure => simp [intOf]; omega
            · have HBE := Lib.hid (below_then HBW.out HB.out)
              go_wp2_with fail
              go_fit (KW.out _ HBE.out)
              rintro e v9 ⟨rfl, hb9⟩
              have HB9 := Lib.hid (below_then HBE.out hb9)
              clear hb9
              go_wp2
              go_ret
              exact ⟨rfl, HB9.out⟩
  · have h1 := HR0.out hE
    have h2 := HQ0.out hE
    subst h1
    subst h2
    clear hE HR0 HR1 HQ0 HQ1
    go_wp2_with fail
    go_fit (KW.out _ HB2.out)
    rintro e w3 ⟨rfl, hb3⟩
    have HB3 := Lib.hid (below_then HB2.out hb3)
    clear hb3
    go_wp2
    go_ret
    exact ⟨rfl, HB3.out⟩
end Go.Proofs.YtmibpncmebhbjaaDoor
