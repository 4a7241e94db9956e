/- Walks of the package date: whether a calendar is valid. Conditions: those stated. -/
import Derived.Test.YthpjeclhignciaaDoorT5
namespace Go.Proofs.YthpjeclhignciaaDoor
open Go Go.RowKit Go.Shelf
attribute [local go_sem] Oper.semAt_some

set_option maxRecDepth 100000 in
set_option maxHeartbeats 4000000 in
theorem valid_any (v : Value) (ks : List ByteArray) (ys : List Yr) (w : World) (hv : CalV w v ks ys) (hb : ∀ s ∈ ks, (s.size : Int) ≤ 9223372036854775807) (hyb : ∀ y ∈ ys, YB y) :
    Calls Tryd.prog 24 #[v] w fun e w' => e = .returned (.bool (calB ks ys)) ∧ Below w.heap.size w w' := by
  obtain ⟨Ak, nk, ck, Ay, ny, cy, rfl, hk, hy⟩ := hv
  have hmm := @run_makeMap Tryd.prog
  have Y0 := Cel.new w 25 #[.slice Ak nk ck, .slice Ay ny cy]
  have hB0 := below_alloc' w (.cells #[.slice Ak nk ck, .slice Ay ny cy] 25)
  have hvk := validKings_any (.slice Ak nk ck) ks (w.alloc (.cells #[.slice Ak nk ck, .slice Ay ny cy] 25)) (hk.below hB0) hb
  have hnk : nk = ks.length := by
    obtain ⟨A', n', c', e, hnl, _⟩ := hk.open2 (by decide)
    cases e
    simp at hnl; omega
  subst hnk
  have HK := Lib.hid hvk
  clear hvk hk
  have k0 := Y0.cell 0 _ rfl
  have k1 := Y0.cell 1 _ rfl
  have hy' := hy.below hB0
  clear hy
  obtain ⟨A', n', c', e, hnl, hnc, hcm, hcl⟩ := hy'.open2 (by decide)
  cases e
  rw [yearsV_length] at hnl
  obtain rfl : ny = ys.length := by omega
  clear hnl hy'
  have HC := Lib.hid hcl
  have HYB := Lib.hid hyb
  clear hcl hyb
  generalize hW : w.alloc (.cells #[.slice Ak ks.length ck, .slice Ay ys.length cy] 25) = W0 at *
  have HW := Lib.hid hW
  clear hW
  cases hkb : kingsB ks with
  | false =>
    have HF := Lib.hid (show calB ks ys = false by unfold calB; rw [hkb]; rfl)
    rw [hkb] at HK
    clear hkb
    go_enter Tryd.func24, Tryd.ntmps24
    go_wp2_with fail
    rw [HW.out]
    go_wp2_with (go_at_call 40; refine HK.out.mono ?_; rintro e w' ⟨rfl, rfl⟩)
    go_ret
    exact ⟨by rw [HF.out]; rfl, hB0⟩
  | true =>
    rw [hkb] at HK
    by_cases h1 : (ys.length : Int) < 1
    · have d1 : decide ((ys.length : Int) < 1) = true := decide_eq_true h1
      have HF := Lib.hid (show calB ks ys = false by unfold calB; rw [hkb, d1]; rfl)
      clear hkb h1
      go_enter Tryd.func24, Tryd.ntmps24
      go_wp2_with fail
      rw [HW.out]
      go_wp2_with (go_at_call 40; refine HK.out.mono ?_; rintro e w' ⟨rfl, rfl⟩)
      go_ret
      exact ⟨by rw [HF.out]; rfl, hB0⟩
    · by_cases h2 : 400 < (ys.length : Int)
      · have d1 : decide ((ys.length : Int) < 1) = false := decide_eq_false h1
        have d2 : decide (400 < (ys.length : Int)) = true := decide_eq_true h2
        have HF := Lib.hid (show calB ks ys = false by unfold calB; rw [hkb, d1, d2]; rfl)
        clear hkb h1 h2
        go_enter Tryd.func24, Tryd.ntmps24
        go_wp2_with fail
        rw [HW.out]
        go_wp2_with (go_at_call 40; refine HK.out.mono ?_; rintro e w' ⟨rfl, rfl⟩)
        go_ret
        exact ⟨by rw [HF.out]; rfl, hB0⟩
      · have d1 : decide ((ys.length : Int) < 1) = false := decide_eq_false h1
        have d2 : decide (400 < (ys.length : Int)) = false := decide_eq_false h2
        have HF := Lib.hid (show calB ks ys = cGo ks.length [] ys by unfold calB; rw [hkb, d1, d2]; rfl)
        have hl2 : ys.length ≤ 400 := by omega
        clear hkb h1 h2
        have Y1 := Y0.alloc (.map #[] 0)
        have hM := MapK.new (enc := nmK) W0
        have hB1 := hB0.alloc hB0.size (.map #[] 0)
        have k2 := Y1.cell 1 _ rfl
        go_enter Tryd.func24, Tryd.ntmps24
        go_wp2_with fail
        rw [HW.out]
        go_wp2_with (go_at_call 40; refine HK.out.mono ?_; rintro e w' ⟨rfl, rfl⟩)
        obtain ⟨W1, hW1⟩ : ∃ W1, W0.alloc (.map #[] 0) = W1 := ⟨_, rfl⟩
        rw [hW1] at Y1 hM hB1 ⊢
        obtain ⟨Bm, hBm⟩ : ∃ Bm, W0.heap.size = Bm := ⟨_, rfl⟩
        rw [hBm] at hM ⊢
        have hb01 : Below W0.heap.size W0 W1 := by rw [← hW1]; exact below_alloc' _ _
        have HC1 : Hid (0 < ys.length → ∃ b o, Ay = some ⟨b, o, none⟩ ∧ (∀ (j : Nat) (u : Value), (yearsV ys)[j]? = some u → W1.cell? ⟨b, o + j, none⟩ = some u) ∧ ∀ (j : Nat) (u : Value), (yearsV ys)[j]? = some u → b < Bm) := fun h => by
          obtain ⟨b, o, e, h1, h2⟩ := HC.out h
          exact ⟨b, o, e, fun j u hu => below_cell hb01 (h2 j u hu), fun _ _ _ => by omega⟩
        have hwm : w.heap.size < Bm := by have := Y0.lt; omega
        have hBmW := hM.lt
        clear hW1 hBm hb01 HC Y0 hB0 HK k0 k1 k2 HW hmm
        go_loopw [4, 27] (fun tk ti wr => ∃ (k : Nat), ti = .int .i64 k ∧ k ≤ ys.length ∧ tk = .int .i64 (lastK (ys.take k)) ∧ Hid (cGo ks.length [] (ys.take k) = true) ∧ MapK nmK wr Bm (seenK (ys.take k)) ∧ Cel wr w.heap.size 25 #[.slice Ak ks.length ck, .slice Ay ys.length cy] ∧ Below w.heap.size w wr ∧ Below Bm W1 wr) (fun _ ti _ => ys.length - (intOf ti).toNat)
        case atStart => exact ⟨0, rfl, by omega, rfl, rfl, hM, Y1, hB1, Below.refl _ _⟩
        case round =>
          obtain ⟨k, rfl, hk, rfl, HG, hM, hY, hB, hO⟩ := hrel
          clear Y1 hB1
          by_cases hlt : k < ys.length
          · obtain ⟨b, o, e, h2, h3⟩ := HC1.out (by omega)
            subst e
            obtain ⟨g0, g1, g2, g3⟩ := yearsV_get hlt
            have hbB := h3 _ _ g0
            have e0 := (hO.cell (p := ⟨b, _, none⟩) hbB).trans (h2 _ _ g0)
            have e1 := (hO.cell (p := ⟨b, _, none⟩) hbB).trans (h2 _ _ g1)
            have e2 := (hO.cell (p := ⟨b, _, none⟩) hbB).trans (h2 _ _ g2)
            have e3 := (hO.cell (p := ⟨b, _, none⟩) hbB).trans (h2 _ _ g3)
            rw [← Nat.add_assoc] at e1 e2 e3
            have hyb := HYB.out ys[k] (List.getElem_mem _)
            have HT := Lib.hid (take_get ys k hlt)
            have HS := Lib.hid (cGo_snoc ks.length (ys.take k) ys[k])
            have HD := Lib.hid (show ys = (ys.take k ++ [ys[k]]) ++ ys.drop (k + 1) by rw [← take_get ys k hlt, List.take_append_drop])
            have HL := Lib.hid (lastK_snoc (ys.take k) ys[k])
            have HSE := Lib.hid (seenK_snoc (ys.take k) ys[k])
            have HGS := Lib.hid (getK_seen (ys.take k) (ys[k].king, ys[k].name))
            clear g0 g1 g2 g3 h2 h3
            generalize ys[k] = y at *
            obtain ⟨⟨hk1, hk2⟩, hn1, ⟨hl1, hl2'⟩, hd1, hd2⟩ := hyb
            have hYb := Cel.new wr 51 #[.int .i64 y.king, .string y.name, .int .i64 y.long, .int .i64 y.dbl]
            have hM1 := hM.alloc (.cells #[.int .i64 y.king, .string y.name, .int .i64 y.long, .int .i64 y.dbl] 51)
            have hY1 := hY.alloc (.cells #[.int .i64 y.king, .string y.name, .int .i64 y.long, .int .i64 y.dbl] 51)
            have hB1 := hB.alloc hB.size (.cells #[.int .i64 y.king, .string y.name, .int .i64 y.long, .int .i64 y.dbl] 51)
            have hO1 := hO.alloc (by have := hM.lt; omega) (.cells #[.int .i64 y.king, .string y.name, .int .i64 y.long, .int .i64 y.dbl] 51)
            have hMl := hM.lt
            have hwl := hY.lt
            have r0 := hY1.cell 0 _ rfl
            have r1 := hY1.cell 1 _ rfl
            have hlk := hM1.lookup (P := Tryd.prog) (t := 97) Tryd.underlying97 nm_keyS (Tryd.zeroValue4 (wr.alloc (.cells #[.int .i64 y.king, .string y.name, .int .i64 y.long, .int .i64 y.dbl] 51))) (y.king, y.name) false
            rw [HGS.out] at hlk
            simp only [nmK] at hlk
            have HFL := Lib.hid (show okY ks.length (lastK (ys.take k)) (keysY (ys.take k)) y = false → calB ks ys = false from fun h => by
              have h' := cGo_append ks.length [] (ys.take k ++ [y]) (ys.drop (k + 1))
              rw [← HD.out, HS.out, h, Bool.and_false, Bool.false_and] at h'
              rw [HF.out, h'])
            have HGO := Lib.hid (show okY ks.length (lastK (ys.take k)) (keysY (ys.take k)) y = true → cGo ks.length [] (ys.take (k + 1)) = true from fun h => by
              rw [HT.out, HS.out, HG.out, h]; rfl)
            clear HS HD HF HG
            generalize hKK : lastK (ys.take k) = K at *
            clear hKK
            cases x1 : decide (y.king < K) with
            | true =>
              have HR := Lib.hid (HFL.out (by unfold okY; rw [x1]; simp))
              go_wp2
              go_ret
              exact ⟨by rw [HR.out]; rfl, hB1⟩
            | false =>
              cases x2 : decide ((ks.length : Int) ≤ y.king) with
              | true =>
                have HR := Lib.hid (HFL.out (by unfold okY; rw [x1, x2]; simp))
                go_wp2
                go_ret
                exact ⟨by rw [HR.out]; rfl, hB1⟩
              | false =>
                cases x3 : nameB y.name with
                | true =>
                  cases x4 : decide ((y.king, y.name) ∈ keysY (ys.take k)) with
                  | true =>
                    rw [if_pos (of_decide_eq_true x4)] at hlk
                    have HR := Lib.hid (HFL.out (by unfold okY; rw [x1, x2, x3, x4]; simp))
                    clear x4
                    go_wp2_with (go_at_call 41; refine (isName_any y.name _ hn1).mono ?_; rintro e w' ⟨rfl, rfl⟩)
                    go_ret
                    exact ⟨by rw [HR.out]; rfl, hB1⟩
                  | false =>
                    rw [if_neg (of_decide_eq_false x4)] at hlk
                    have hnew : getK (seenK (ys.take k)) (y.king, y.name) = none := by rw [HGS.out, if_neg (of_decide_eq_false x4)]
                    cases x5 : decide (y.dbl < 0) with
                    | true =>
                      have HR := Lib.hid (HFL.out (by unfold okY; rw [x1, x2, x3, x4, x5]; simp))
                      clear x4
                      clear hnew
                      go_wp2_with (go_at_call 41; refine (isName_any y.name _ hn1).mono ?_; rintro e w' ⟨rfl, rfl⟩)
                      go_ret
                      exact ⟨by rw [HR.out]; rfl, hB1⟩
                    | false =>
                      cases x6 : decide (12 < y.dbl) with
                      | true =>
                        have HR := Lib.hid (HFL.out (by unfold okY; rw [x1, x2, x3, x4, x5, x6]; simp))
                        clear x4
                        clear hnew
                        go_wp2_with (go_at_call 41; refine (isName_any y.name _ hn1).mono ?_; rintro e w' ⟨rfl, rfl⟩)
                        go_ret
                        exact ⟨by rw [HR.out]; rfl, hB1⟩
                      | false =>
                        cases x7 : decide (y.long < 0) with
                        | true =>
                          have HR := Lib.hid (HFL.out (by unfold okY; rw [x1, x2, x3, x4, x5, x6, x7]; simp))
                          clear x4
                          clear hnew
                          go_wp2_with (go_at_call 41; refine (isName_any y.name _ hn1).mono ?_; rintro e w' ⟨rfl, rfl⟩)
                          go_ret
                          exact ⟨by rw [HR.out]; rfl, hB1⟩
                        | false =>
                          cases x8 : decide (8191 < y.long) with
                          | true =>
                            have HR := Lib.hid (HFL.out (by unfold okY; rw [x1, x2, x3, x4, x5, x6, x7, x8]; simp))
                            clear x4
                            clear hnew
                            go_wp2_with (go_at_call 41; refine (isName_any y.name _ hn1).mono ?_; rintro e w' ⟨rfl, rfl⟩)
                            go_ret
                            exact ⟨by rw [HR.out]; rfl, hB1⟩
                          | false =>
                            cases x9 : (y.dbl == 0) with
                            | true =>
                              cases x10 : decide (4096 ≤ y.long) with
                              | true =>
                                have HR := Lib.hid (HFL.out (by unfold okY; rw [x1, x2, x3, x4, x5, x6, x7, x8, x9, x10]; simp))
                                clear x4
                                clear hnew
                                go_wp2_with (go_at_call 41; refine (isName_any y.name _ hn1).mono ?_; rintro e w' ⟨rfl, rfl⟩)
                                go_ret
                                exact ⟨by rw [HR.out]; rfl, hB1⟩
                              | false =>
                                have HR := Lib.hid (HGO.out (by unfold okY; rw [x1, x2, x3, x4, x5, x6, x7, x8, x9, x10]; simp))
                                have hup := hM1.update (P := Tryd.prog) (t := 97) Tryd.underlying97 nm_keyS (y.king, y.name) (.bool true) hnew
                                have hput := hM1.put (y.king, y.name) (.bool true)
                                have hG := hM1.put_grown (nmK (y.king, y.name)) (.bool true)
                                simp only [nmK] at hup hput hG
                                clear x4 hnew
                                have hY2 := hY1.kept hG (by simp; omega)
                                have hB2 := hB1.grown hG hB1.size (fun j e => by cases e; omega)
                                have hO2 := hO1.grown hG (by simp; omega) (fun j e => by cases e; exact Nat.le_refl _)
                                go_wp2_with (go_at_call 41; refine (isName_any y.name _ hn1).mono ?_; rintro e w' ⟨rfl, rfl⟩)
                                go_roundw
                                case rel => exact ⟨k + 1, by go_num, by omega, by rw [HT.out, HL.out], HR.out, by rw [HT.out, HSE.out]; exact hput, hY2, hB2, hO2⟩
                                case measure => simp [intOf]; omega
                            | false =>
                              have HR := Lib.hid (HGO.out (by unfold okY; rw [x1, x2, x3, x4, x5, x6, x7, x8, x9]; simp))
                              have hup := hM1.update (P := Tryd.prog) (t := 97) Tryd.underlying97 nm_keyS (y.king, y.name) (.bool true) hnew
                              have hput := hM1.put (y.king, y.name) (.bool true)
                              have hG := hM1.put_grown (nmK (y.king, y.name)) (.bool true)
                              simp only [nmK] at hup hput hG
                              clear x4 hnew
                              have hY2 := hY1.kept hG (by simp; omega)
                              have hB2 := hB1.grown hG hB1.size (fun j e => by cases e; omega)
                              have hO2 := hO1.grown hG (by simp; omega) (fun j e => by cases e; exact Nat.le_refl _)
                              go_wp2_with (go_at_call 41; refine (isName_any y.name _ hn1).mono ?_; rintro e w' ⟨rfl, rfl⟩)
                              go_roundw
                              case rel => exact ⟨k + 1, by go_num, by omega, by rw [HT.out, HL.out], HR.out, by rw [HT.out, HSE.out]; exact hput, hY2, hB2, hO2⟩
                              case measure => simp [intOf]; omega
                | false =>
                  have HR := Lib.hid (HFL.out (by unfold okY; rw [x1, x2, x3]; simp))
                  go_wp2_with (go_at_call 41; refine (isName_any y.name _ hn1).mono ?_; rintro e w' ⟨rfl, rfl⟩)
                  go_ret
                  exact ⟨by rw [HR.out]; rfl, hB1⟩
          · obtain rfl : k = ys.length := by omega
            go_wp2
            go_ret
            exact ⟨by rw [HF.out]; have := HG.out; rw [List.take_length] at this; rw [this]; rfl, hB⟩
end Go.Proofs.YthpjeclhignciaaDoor
