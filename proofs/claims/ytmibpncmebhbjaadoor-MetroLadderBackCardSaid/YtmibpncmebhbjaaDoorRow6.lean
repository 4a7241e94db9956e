/- MetroLadderBack: the walk. -/
import Derived.Test.YtmibpncmebhbjaaDoorP10
import Derived.Test.YtmibpncmebhbjaaDoorLad2
import Derived.Test.YtmibpncmebhbjaaDoorLad3
import Derived.Test.YtmibpncmebhbjaaDoorVal3
import Derived.Test.YtmibpncmebhbjaaDoorTot3
import Derived.Test.YtmibpncmebhbjaaDoorBack1
namespace Go.Proofs.YtmibpncmebhbjaaDoor
open Go Go.RowKit Go.Shelf
attribute [local go_sem] Oper.semAt_some rrV

theorem vals_full {nm : ByteArray} {us : List Un} (h : checkF nm us = 0) : (vals us).length = us.length := by rw [vals, List.length_map, checkB_full h]
set_option maxRecDepth 100000 in
set_option maxHeartbeats 2000000 in
theorem ladderBack_any (fs : List Int) (A : Option Addr) (c : Nat) (n : Int) (w : World) (hz : Zw w) (hsl : Sl w 1 (.slice A fs.length c) (fs.map (Value.int .i64))) (hfs : ∀ f ∈ fs, Bd f) (hn1 : -9223372036854775808 ≤ n) (hn2 : n ≤ 9223372036854775807) :
    Calls Tryd.prog 14 #[.slice A fs.length c, .int .i64 n] w fun e w' => e = .returned (.bool true) ∧ Below w.heap.size w w' := by
  have HV := Lib.hid (valid_any ⟨#[111, 119, 110]⟩ fs _ w hsl hfs)
  have HZ := Lib.hid hz
  have hUl := validU_length fs
  have hck := valid_ok (nm := ⟨#[111, 119, 110]⟩) (by kernel_rfl) fs
  have hul1 : 1 ≤ (validU fs).length := by omega
  have hul2 : (validU fs).length ≤ 8 := by omega
  clear hsl hfs hz hUl
  generalize validU fs = us at *
  have hN : bringF n 1099511627777 = n % 1099511627777 := if_neg (by decide)
  have HBN := Lib.hid (fun W => bring_any n 1099511627777 W hn1 hn2 (by decide) (by decide))
  rw [hN] at HBN
  have hn3 := Int.emod_nonneg n (show (1099511627777 : Int) ≠ 0 by decide)
  have hn4 := Int.emod_lt_of_pos n (show (0 : Int) < 1099511627777 by decide)
  clear hN hn1 hn2
  generalize n % 1099511627777 = m at *
  have hm1 : m ≤ 1099511627776 := by omega
  have hsE := splitE_good hck hn3 hm1
  have hsL := splitL_yes hsE
  have HC1 : Hid (∀ A1 c1 w', Sl w' 2 (.slice A1 us.length c1) (unitsV us) → Calls Tryd.prog 53 #[.agg #[.string (⟨#[111, 119, 110]⟩ : ByteArray), .slice A1 us.length c1], .int .i64 m] w' fun e w'' => ∃ c2 A2, e = .returned (.tuple #[.slice A2 us.length c2, .int .i64 0]) ∧ Sl w'' 1 (.slice A2 us.length c2) ((splitF us m).map (Value.int .i64)) ∧ Below w'.heap.size w' w'') := fun A1 c1 w' h => by
    refine (Split_any ⟨#[111, 119, 110]⟩ (by decide) A1 c1 us m w' h (by omega)).mono ?_
    rintro e w'' ⟨v, rfl, hv, hb⟩
    rw [hsE, hsL] at *
    obtain ⟨A2, c2, rfl, _⟩ := hv.open1
    rw [List.length_map, splitF_length] at *
    exact ⟨c2, A2, rfl, hv, hb⟩
  have HC2 : Hid (∀ A1 c1 w', Sl w' 2 (.slice A1 us.length c1) (unitsV us) → Calls Tryd.prog 31 #[.agg #[.string (⟨#[111, 119, 110]⟩ : ByteArray), .slice A1 us.length c1]] w' fun e w'' => e = .returned (.int .i64 0) ∧ Below w'.heap.size w' w'') := fun A1 c1 w' h => by
    have := check_any ⟨#[111, 119, 110]⟩ (by decide) (.agg #[.string ⟨#[111, 119, 110]⟩, .slice A1 us.length c1]) us w' ⟨A1, _, c1, rfl, h⟩
    rwa [hck] at this
  have hlen : (splitF us m).length = us.length := splitF_length us m
  have hbds := splitF_bd us m hn3 (fun u hu => ((checkF_zero hck).1 u hu).1)
  have HC3 : Hid (∀ A1 c1 A2 c2 w', Sl w' 2 (.slice A1 us.length c1) (unitsV us) → Sl w' 1 (.slice A2 us.length c2) ((splitF us m).map (Value.int .i64)) → Calls Tryd.prog 64 #[.agg #[.string (⟨#[111, 119, 110]⟩ : ByteArray), .slice A1 us.length c1], .slice A2 us.length c2] w' fun e w'' => e = .returned (.tuple #[.int .i64 m, .int .i64 0]) ∧ Below w'.heap.size w' w'') := fun A1 c1 A2 c2 w' h h2 => by
    have hb : ∀ x ∈ splitF us m, Bd x := fun x hx => by
      have h1 := (total_ok (nm := ⟨#[111, 119, 110]⟩) (us := us) (cs := splitF us m) (by rw [total_split hck hn3 hm1])).2.2.1 x hx
      unfold Bd; omega
    have := total_any ⟨#[111, 119, 110]⟩ (by decide) A1 c1 us A2 c2 (splitF us m) w' h (by rw [hlen]; exact h2) hb
    rw [total_split hck hn3 hm1, hlen] at this
    exact this
  have hvl := vals_full hck
  obtain ⟨k, hk⟩ : ∃ k, k + 1 = us.length := ⟨us.length - 1, by omega⟩
  have hkv : k < (vals us).length := by omega
  have hku : k < us.length := by omega
  have h0v : 0 < (vals us).length := by omega
  obtain ⟨v1, v2⟩ := vals_get hkv
  have hval := value_own hck hku hkv
  have hva0 := value_own (k := 0) hck hul1 h0v
  rw [vals_first hck h0v] at hva0
  have hlast := split_last hck m hk hkv
  have HVLS := Lib.hid hlast
  have HC4 : Hid (∀ A1 c1 w', Sl w' 2 (.slice A1 us.length c1) (unitsV us) → Calls Tryd.prog 29 #[.agg #[.string (⟨#[111, 119, 110]⟩ : ByteArray), .slice A1 us.length c1], .string us[k].sign] w' fun e w'' => e = .returned (.tuple #[.int .i64 (vals us)[k], .int .i64 0]) ∧ Below w'.heap.size w' w'') := fun A1 c1 w' h => by
    have := value_any ⟨#[111, 119, 110]⟩ (by decide) (.agg #[.string ⟨#[111, 119, 110]⟩, .slice A1 us.length c1]) us us[k].sign w' ⟨A1, _, c1, rfl, h⟩
    rwa [hval] at this
  have HC5 : Hid (∀ A1 c1 w', Zw w' → Sl w' 2 (.slice A1 us.length c1) (unitsV us) → Calls Tryd.prog 56 #[.agg #[.string (⟨#[111, 119, 110]⟩ : ByteArray), .slice A1 us.length c1], .int .i64 m, .string (us[0]'hul1).sign] w' fun e w'' => e = .returned (.tuple #[.agg #[.int .i64 m, .int .i64 1], .int .i64 0]) ∧ Below w'.heap.size w' w'') := fun A1 c1 w' hz h => by
    have := in_any ⟨#[111, 119, 110]⟩ (by decide) A1 c1 us m (us[0]'hul1).sign w' hz h (by omega) (by omega)
    rw [hva0] at this
    rwa [show inF 1 0 m = ⟨m, 1, 0⟩ by rw [inF, if_pos rfl, rangeB_in hn3 hm1]; exact ratioF_one hn3 hm1] at this
  have C6 : Hid (∀ w', Below w.heap.size w w' → Calls Tryd.prog 27 #[] w' fun e w'' => e = .returned (.bool true) ∧ Below w'.heap.size w' w'') := fun w' hb => works_any w' (HZ.out.below hb)
  have HBD := Lib.hid hbds
  have HLEN := Lib.hid hlen
  have HKK := Lib.hid hk
  clear hck hsE hsL hlen hbds hvl hval hva0 hlast h0v
  generalize (vals us)[k] = v at *
  clear hkv
  go_enter Tryd.func14, Tryd.ntmps14
  go_wp2_with (first
    | (go_at_call 49; refine HV.out.mono ?_; rintro e w1 ⟨A1, c1, rfl, hs1, hb1⟩; have HB1 := Lib.hid (hb1.alloc hb1.size (.cells #[.string (⟨#[111, 119, 110]⟩ : ByteArray), .slice A1 us.length c1] 33)); have HS1 := Lib.hid (hs1.alloc (.cells #[.string (⟨#[111, 119, 110]⟩ : ByteArray), .slice A1 us.length c1] 33)); have HY1 := Lib.hid (Cel.new w1 33 #[.string (⟨#[111, 119, 110]⟩ : ByteArray), .slice A1 us.length c1]); have a0 := HY1.out.cell 0 (.string (⟨#[111, 119, 110]⟩ : ByteArray)) rfl; have a1 := HY1.out.cell 1 (.slice A1 us.length c1) rfl; clear hs1 hb1)
    | (go_at_call 36; refine (HBN.out _).mono ?_; rintro e w2 ⟨rfl, rfl⟩)
    | (go_at_call 53; refine (HC1.out A1 c1 _ HS1.out).mono ?_; rintro e w3 ⟨c2, A2, rfl, h2, hb3⟩; have HO3 := Lib.hid h2; have HS3 := Lib.hid (HS1.out.below hb3); have HY3 := Lib.hid (HY1.out.below HY1.out.lt hb3); have HB3 := Lib.hid (HB1.out.trans (hb3.mono HB1.out.size)); clear h2 hb3 a0 a1; have a0 := HY3.out.cell 0 (.string (⟨#[111, 119, 110]⟩ : ByteArray)) rfl; have a1 := HY3.out.cell 1 (.slice A1 us.length c1) rfl)
    | (go_at_call 31; refine (HC2.out A1 c1 _ HS3.out).mono ?_; rintro e w4 ⟨rfl, hb4⟩; have HO4 := Lib.hid (HO3.out.below hb4); have HS4 := Lib.hid (HS3.out.below hb4); have HY4 := Lib.hid (HY3.out.below HY3.out.lt hb4); have HB4 := Lib.hid (HB3.out.trans (hb4.mono HB3.out.size)); clear hb4 a0 a1; have a0 := HY4.out.cell 0 (.string (⟨#[111, 119, 110]⟩ : ByteArray)) rfl; have a1 := HY4.out.cell 1 (.slice A1 us.length c1) rfl))
  obtain ⟨_, _, _, e, _, _, hcm1, hcl⟩ := HS4.out.open2 (by decide)
  cases e
  obtain ⟨b, o, e, _, hce⟩ := hcl (by omega)
  subst e
  obtain ⟨_, _, e, _, hcm2, hcl2⟩ := HO4.out.open1
  simp only [List.length_map, HLEN.out] at e
  cases e
  have HUC := Lib.hid hce
  have HCC := Lib.hid hcl2
  clear hce hcl hcl2 a0 a1
  go_loopw [8] (fun t wr => ∃ j : Nat, t = .int .i64 j ∧ j ≤ us.length ∧ Below w4.heap.size w4 wr) (fun t _ => us.length - (intOf t).toNat)
  case atStart => exact ⟨0, rfl, by omega, Below.refl _ _⟩
  case round =>
    obtain ⟨j, rfl, hj, hB⟩ := hrel
    have a1 := (HY4.out.below HY4.out.lt hB).cell 1 (.slice (some ⟨b, o, none⟩) us.length c1) rfl
    by_cases hlt : j < us.length
    · obtain ⟨ad, e, q0⟩ := HCC.out j (.int .i64 ((splitF us m)[j]'(by rw [HLEN.out]; exact hlt))) (by rw [List.getElem?_map, List.getElem?_eq_getElem]; rfl)
      subst e
      have e0 := below_cell hB q0
      obtain ⟨x1, x2⟩ := HBD.out j _ (List.getElem?_eq_getElem (by rw [HLEN.out]; exact hlt))
      generalize (splitF us m)[j]'_ = x at *
      have dx : decide (x < 0) = false := decide_eq_false (by omega)
      have hw : IntKind.i64.wrap ((j : Int) + 1) = (j : Int) + 1 := by rw [IntKind.wrap_i64]; omega
      have hjn : ((j : Int) + 1).toNat = j + 1 := by omega
      have hjp : (0 : Int) ≤ (j : Int) + 1 := by omega
      have hji : (j : Int) < (us.length : Int) := by omega
      clear q0
      by_cases h2 : j + 1 < us.length
      · have x3 := x2 us[j + 1] (List.getElem?_eq_getElem h2)
        obtain ⟨_, g1⟩ := unitsV_get h2
        have e1 := below_cell hB (HUC.out _ _ g1)
        rw [← Nat.add_assoc] at e1
        generalize us[j + 1].factor = f at *
        have df : decide (f ≤ x) = false := decide_eq_false (by omega)
        have d2 : (j : Int) + 1 < (us.length : Int) := by omega
        clear g1 x2 x3
        go_wp2
        go_quiet (fail)
        go_wp2
        go_roundw
        case rel => exact ⟨j + 1, by simp, hlt, below_drewN hB _⟩
        case measure => simp [intOf]; omega
      · have d2 : decide ((j : Int) + 1 < (us.length : Int)) = false := decide_eq_false (by omega)
        clear x2
        go_wp2
        go_quiet (fail)
        go_wp2
        go_roundw
        case rel => exact ⟨j + 1, by simp, hlt, below_drewN hB _⟩
        case measure => simp [intOf]; omega
    · obtain ⟨g0, _⟩ := unitsV_get hul1
      obtain ⟨gk, _⟩ := unitsV_get hku
      have u0 := HUC.out _ _ g0
      have uk := HUC.out _ _ gk
      rw [Nat.zero_mul, Nat.add_zero] at u0
      obtain ⟨ad, e, ql⟩ := HCC.out k (.int .i64 (m / v)) (by rw [List.getElem?_map, HVLS.out]; rfl)
      subst e
      have HK : Hid (∀ w', Below w4.heap.size w4 w' → w'.cell? ⟨w1.heap.size, 0, none⟩ = some (.string (⟨#[111, 119, 110]⟩ : ByteArray)) ∧ w'.cell? ⟨w1.heap.size, 1, none⟩ = some (.slice (some ⟨b, o, none⟩) us.length c1) ∧ w'.cell? ⟨b, o, none⟩ = some (.string (us[0]'hul1).sign) ∧ w'.cell? ⟨b, o + k * 2, none⟩ = some (.string us[k].sign) ∧ w'.cell? (ad.add k) = some (.int .i64 (m / v))) := by
        intro w' hb'
        have z1 := HY4.out.below HY4.out.lt hb'
        exact ⟨z1.cell 0 _ rfl, z1.cell 1 _ rfl, below_cell hb' u0, below_cell hb' uk, below_cell hb' ql⟩
      have HSW : Hid (∀ w', Below w4.heap.size w4 w' → Sl w' 2 (.slice (some ⟨b, o, none⟩) us.length c1) (unitsV us)) := fun w' hb' => HS4.out.below hb'
      have HBB := Lib.hid hB
      have hk1 : IntKind.i64.wrap (k : Int) = (k : Int) := by rw [IntKind.wrap_i64]; omega
      have hk2 : (us.length : Int) - 1 = (k : Int) := by omega
      have hki : (k : Int) < (us.length : Int) := by omega
      have hu0 : (0 : Int) < (us.length : Int) := by omega
      obtain ⟨a0, a1, a2, a3, a4⟩ := HK.out _ hB
      generalize (us[0]'hul1).sign = sg0 at *
      generalize us[k].sign = sgk at *
      clear g0 gk u0 uk ql a2 a3 a4 HUC HCC HBD hB
      go_wp2_with (go_at_call 64; refine (HC3.out _ c1 _ c2 _ (HSW.out _ HBB.out) (HO4.out.below HBB.out)).mono ?_; rintro e w5 ⟨rfl, hb5⟩; have HB5 := Lib.hid (below_then HBB.out hb5); clear hb5 a0 a1; obtain ⟨a0, a1, a2, a3, a4⟩ := HK.out _ HB5.out)
      go_region_held3 (fun w' => w'.cell? ⟨w1.heap.size, 0, none⟩ = some (.string (⟨#[111, 119, 110]⟩ : ByteArray)) ∧ w'.cell? ⟨w1.heap.size, 1, none⟩ = some (.slice (some ⟨b, o, none⟩) us.length c1) ∧ w'.cell? ⟨b, o + k * 2, none⟩ = some (.string sgk))
        (first | exact ⟨e0, e1, e3⟩ | exact ⟨a0, a1, a3⟩) (first
        | (go_at_call 29; refine (HC4.out _ c1 _ (HSW.out _ (below_drew HB5.out))).mono ?_; rintro e w6 ⟨rfl, hb6⟩; have HB6 := Lib.hid (below_then HB5.out (below_undrew hb6)); clear hb6; obtain ⟨e0, e1, e2, e3, e4⟩ := HK.out _ HB6.out))
      go_wp2
      clear a0 a1 a2 a3 a4
      have hul0 : 0 < us.length := hul1
      have hv0 : ¬ v = 0 := by omega
      have hw8 : IntKind.i64.wrap (m.tdiv v) = m / v := by
        have q1 := Int.ediv_nonneg hn3 (show 0 ≤ v by omega)
        have q2 := Int.ediv_le_self v hn3
        rw [Int.tdiv_eq_ediv_of_nonneg hn3, IntKind.wrap_i64]; omega
      have dv1 : decide (1 ≤ v) = true := decide_eq_true v1
      have hs6 := HB6.out.size
      have HYZ : Hid (Cel (w6.drew.alloc (.cells #[.int .i64 0, .int .i64 0] 23)) w6.heap.size 23 #[.int .i64 0, .int .i64 0]) := Cel.new w6.drew 23 #[.int .i64 0, .int .i64 0]
      have HBZ := Lib.hid ((below_drew HB6.out).alloc (below_drew HB6.out).size (.cells #[.int .i64 0, .int .i64 0] 23))
      obtain ⟨q0, q1, q2, _, _⟩ := HK.out _ HBZ.out
      go_region_held3 (fun w' => w'.cell? ⟨w1.heap.size, 0, none⟩ = some (.string (⟨#[111, 119, 110]⟩ : ByteArray)) ∧ w'.cell? ⟨w1.heap.size, 1, none⟩ = some (.slice (some ⟨b, o, none⟩) us.length c1) ∧ w'.cell? ⟨b, o, none⟩ = some (.string sg0))
        (first
          | exact ⟨f0, f1, f2⟩
          | exact ⟨q0, q1, q2⟩
          | exact ⟨e0, e1, e2⟩
          | (obtain ⟨k0, k1, k2, _⟩ := HK.out _ (HB7.out.alloc HB7.out.size _); exact ⟨k0, k1, k2⟩)
          | (obtain ⟨k0, k1, k2, _⟩ := HK.out _ (((HB7.out.alloc HB7.out.size (.cells #[.int .i64 0, .int .i64 0] 23)).setCell (p := ⟨w7.heap.size, 0, none⟩) (by simp; omega) (.int .i64 m)).setCell (p := ⟨w7.heap.size, 1, none⟩) (by simp; omega) (.int .i64 1)); exact ⟨k0, k1, k2⟩)
          | (obtain ⟨k0, k1, k2, _⟩ := HK.out _ ((HB7.out.setCell (p := ⟨w6.heap.size, 0, none⟩) (by simp; omega) (.int .i64 m)).setCell (p := ⟨w6.heap.size, 1, none⟩) (by simp; omega) (.int .i64 1)); exact ⟨k0, k1, k2⟩)) (first
        | (go_at_call 56; refine (HC5.out _ c1 _ (HZ.out.below (HB4.out.trans ((below_drew HB6.out).mono HB4.out.size))) (HSW.out _ (below_drew HB6.out))).mono ?_; rintro e w7 ⟨rfl, hb7⟩; have HB7 := Lib.hid (below_then HB6.out (below_undrew hb7)); have hs7 := HB7.out.size; clear hb7; obtain ⟨f0, f1, f2, f3, f4⟩ := HK.out _ HB7.out)
        | (go_at_call 56; refine (HC5.out _ c1 _ (HZ.out.below (HB4.out.trans (HBZ.out.mono HB4.out.size))) (HSW.out _ HBZ.out)).mono ?_; rintro e w7 ⟨rfl, hb7⟩; have HB7 := Lib.hid (below_then HBZ.out hb7); have hs7 := HB7.out.size; have HYB := Lib.hid (HYZ.out.below HYZ.out.lt hb7); have y0 := HYB.out.cell 0 (.int .i64 0) rfl; have y1 := HYB.out.cell 1 (.int .i64 0) rfl; have y2 := HYB.out.frozen 0; have y3 := HYB.out.frozen 1; clear hb7; obtain ⟨f0, f1, f2, f3, f4⟩ := HK.out _ HB7.out))
      · have hc : Cel (w7.alloc (.cells #[.int .i64 m, .int .i64 1] 23)) w7.heap.size 23 #[.int .i64 m, .int .i64 1] := Cel.new w7 23 #[.int .i64 m, .int .i64 1]
        have hBX := HB7.out.alloc HB7.out.size (.cells #[.int .i64 m, .int .i64 1] 23)
        obtain ⟨X, hX⟩ : ∃ X, w7.alloc (.cells #[.int .i64 m, .int .i64 1] 23) = X := ⟨_, rfl⟩
        rw [hX] at hc hBX ⊢
        clear hX
        have r0 := hc.cell 0 (.int .i64 m) rfl
        have r1 := hc.cell 1 (.int .i64 1) rfl
        obtain ⟨k0, k1, k2, k3, k4⟩ := HK.out X hBX
        have HBX := Lib.hid hBX
        have HKX : Hid (∀ w', Below X.heap.size X w' → w'.cell? ⟨w7.heap.size, 0, none⟩ = some (.int .i64 m) ∧ w'.cell? ⟨w7.heap.size, 1, none⟩ = some (.int .i64 1) ∧ w'.cell? (ad.add k) = some (.int .i64 (m / v))) := fun w' hb' => ⟨below_cell hb' r0, below_cell hb' r1, below_cell hb' k4⟩
        clear hc hBX k0 k1 k2 k3
        go_wp2
        go_region_held3 (fun w' => w'.cell? ⟨w7.heap.size, 0, none⟩ = some (.int .i64 m) ∧ w'.cell? ⟨w7.heap.size, 1, none⟩ = some (.int .i64 1) ∧ w'.cell? (ad.add k) = some (.int .i64 (m / v)))
          (first
            | exact ⟨r0, r1, k4⟩
            | exact HKX.out _ (below_undrew hb8)) (first
          | (go_at_call 27; refine (C6.out _ (HB4.out.trans ((below_drew HBX.out).mono HB4.out.size))).mono ?_; rintro e w8 ⟨rfl, hb8⟩))
        go_wp2
        go_ret
        exact ⟨rfl, HB4.out.trans ((below_then HBX.out (below_undrew hb8)).mono HB4.out.size)⟩
      · have hc : Cel ((w7.setCell ⟨w6.heap.size, 0, none⟩ (.int .i64 m)).setCell ⟨w6.heap.size, 1, none⟩ (.int .i64 1)) w6.heap.size 23 #[.int .i64 m, .int .i64 1] := HYB.out.set2 _ _
        have hBX := ((HB7.out.setCell (p := ⟨w6.heap.size, 0, none⟩) (by simp; omega) (.int .i64 m)).setCell (p := ⟨w6.heap.size, 1, none⟩) (by simp; omega) (.int .i64 1))
        obtain ⟨X, hX⟩ : ∃ X, (w7.setCell ⟨w6.heap.size, 0, none⟩ (.int .i64 m)).setCell ⟨w6.heap.size, 1, none⟩ (.int .i64 1) = X := ⟨_, rfl⟩
        rw [hX] at hc hBX ⊢
        clear hX
        have r0 := hc.cell 0 (.int .i64 m) rfl
        have r1 := hc.cell 1 (.int .i64 1) rfl
        obtain ⟨k0, k1, k2, k3, k4⟩ := HK.out X hBX
        have HBX := Lib.hid hBX
        have HKX : Hid (∀ w', Below X.heap.size X w' → w'.cell? ⟨w6.heap.size, 0, none⟩ = some (.int .i64 m) ∧ w'.cell? ⟨w6.heap.size, 1, none⟩ = some (.int .i64 1) ∧ w'.cell? (ad.add k) = some (.int .i64 (m / v))) := fun w' hb' => ⟨below_cell hb' r0, below_cell hb' r1, below_cell hb' k4⟩
        clear hc hBX k0 k1 k2 k3
        go_wp2
        go_region_held3 (fun w' => w'.cell? ⟨w6.heap.size, 0, none⟩ = some (.int .i64 m) ∧ w'.cell? ⟨w6.heap.size, 1, none⟩ = some (.int .i64 1) ∧ w'.cell? (ad.add k) = some (.int .i64 (m / v)))
          (first
            | exact ⟨r0, r1, k4⟩
            | exact HKX.out _ (below_undrew hb8)) (first
          | (go_at_call 27; refine (C6.out _ (HB4.out.trans ((below_drew HBX.out).mono HB4.out.size))).mono ?_; rintro e w8 ⟨rfl, hb8⟩))
        go_wp2
        go_ret
        exact ⟨rfl, HB4.out.trans ((below_then HBX.out (below_undrew hb8)).mono HB4.out.size)⟩
end Go.Proofs.YtmibpncmebhbjaaDoor
