/- The walk of four. -/
import Derived.Test.YtmibpncmebhbjaaDoorFou2
namespace Go.Proofs.YtmibpncmebhbjaaDoor
open Go Go.RowKit Go.Shelf
attribute [local go_sem] Oper.semAt_some

theorem bring12 (n : Int) (w : World) (h : Bd n) : Calls Tryd.prog 36 #[.int .i64 n, .int .i64 12] w fun e w' => e = .returned (.int .i64 (n % 12)) ∧ w = w' := by
  have := bring_any n 12 w h.1 h.2 (by decide) (by decide)
  rwa [show bringF n 12 = n % 12 from if_neg (by decide)] at this
theorem bring4 (n : Int) (w : World) (h : Bd n) : Calls Tryd.prog 36 #[.int .i64 n, .int .i64 4] w fun e w' => e = .returned (.int .i64 (m4 n : Int)) ∧ w = w' := by
  have := bring_any n 4 w h.1 h.2 (by decide) (by decide)
  rwa [show bringF n 4 = n % 4 from if_neg (by decide), ← m4_eq] at this
theorem lkRatio (k : Lk) (w : World) (hz : Zw w) : Calls Tryd.prog 46 #[.int .i64 (1 + k.N % 12), .int .i64 (1 + k.D % 12)] w fun e w' => e = .returned (.tuple #[.agg #[.int .i64 (lkR k).n, .int .i64 (lkR k).d], .bool true]) ∧ Below w.heap.size w w' := by
  have := lawratio_any (1 + k.N % 12) (1 + k.D % 12) w hz (by omega) (by omega) (by omega) (by omega)
  rwa [show ((ratioF (1 + k.N % 12) (1 + k.D % 12)).e == 0) = true from by simpa [lkR] using (lkR_ok k).1] at this

set_option maxRecDepth 100000 in
set_option maxHeartbeats 4000000 in
theorem four_any (l : List Lk) (v : Value) (w : World) (hz : Zw w) (hv : Sl w 6 v (lksV l)) (hbd : ∀ k ∈ l, LkBd k) :
    Calls Tryd.prog 34 #[v] w fun e w' => ∃ v1 v2, e = .returned (.tuple #[v1, v2]) ∧ LadsV w' v1 fl ∧ Sl w' 6 v2 (brsV (linksB l)) ∧ Below w.heap.size w w' := by
  obtain ⟨A, n, c, rfl, hlc, hcm, hcM, hcl⟩ := hv.open2 (by decide)
  rw [lksV_length] at hlc
  obtain rfl : n = l.length := by omega
  clear hlc
  have HC := Lib.hid hcl
  have HBD := Lib.hid hbd
  have HZ := Lib.hid hz
  have Y0 := Cel.new w 9 nms4
  have hw0 := below_alloc' w (.cells nms4 9)
  clear hv hcl hbd hz
  go_enter Tryd.func34, Tryd.ntmps34
  go_wp2
  obtain ⟨W, hW⟩ : ∃ W, w.alloc (.cells nms4 9) = W := ⟨_, rfl⟩
  have hWs : W.heap.size = w.heap.size + 1 := by rw [← hW]; simp
  rw [hW] at Y0 hw0
  have hW2 : w.alloc (.cells #[.string ⟨#[119]⟩, .string ⟨#[120]⟩, .string ⟨#[121]⟩, .string ⟨#[122]⟩] 9) = W := hW
  rw [hW2]
  clear hW hW2
  have HY0 := Lib.hid Y0
  go_loopw [5, 6] (fun lv i wr => ∃ k : Nat, i = .int .i64 k ∧ k ≤ 4 ∧ Hid (LO wr (w.heap.size + 1) lv k) ∧ Hid (Below W.heap.size W wr)) (fun _ i _ => 4 - (intOf i).toNat)
  case atStart => exact ⟨0, rfl, by omega, LO.nil _ _, Below.refl _ _⟩
  case round =>
    obtain ⟨k, rfl, hk, hlo, hB⟩ := hrel
    by_cases hlt : k < 4
    · obtain ⟨xs, hown, hxs⟩ := hlo.out.cells
      have HXS := Lib.hid hxs
      obtain ⟨A1, c1, rfl, hown⟩ := own_shape hown
      have s0 := (HY0.out.below HY0.out.lt hB.out).cell k _ (nms4_get hlt)
      have hsz := hB.out.size
      have hk1 : (0 : Int) ≤ (k : Int) := by omega
      have hk2 : (k : Int) < 4 := by omega
      have hS := (Cel.new wr 3 #[.int .i64 (k : Int), .int .i64 ((k : Int) + 3), .int .i64 (3 * (k : Int) + 1)]).sl (s := 1) (m := 3) (cap := 3) (xs := (facF k).map (Value.int .i64)) rfl rfl (Nat.le_refl _) (by decide)
      have hc := valid_anyT (nmF k) (facF k) _ _ hS (fun f hf => by simp [facF] at hf; unfold Bd; rcases hf with e | e | e <;> subst e <;> omega)
      have HCV := Lib.hid hc
      have HLO := hlo
      have HBW := hB
      have HOW := Lib.hid hown
      have HUL := Lib.hid (show (validU (facF k)).length = 4 from laF_len k)
      clear hS hc hown hxs hlo hB
      go_wp2_with fail
      go_fit HCV.out
      rintro e w1 ⟨A2, c2, rfl, hsl, hb1⟩
      have hb2 := below_then (below_alloc' wr (.cells #[.int .i64 (k : Int), .int .i64 ((k : Int) + 3), .int .i64 (3 * (k : Int) + 1)] 3)) hb1
      have HO1 := Lib.hid (own_below HOW.out (hb2.alloc hb2.size (.cells #[.string (nmF k), .slice A2 (validU (facF k)).length c2] 33)))
      have HL1 := Lib.hid (HLO.out.below (hb2.alloc hb2.size (.cells #[.string (nmF k), .slice A2 (validU (facF k)).length c2] 33)))
      have HU1 := Lib.hid (hsl.below (below_alloc' w1 (.cells #[.string (nmF k), .slice A2 (validU (facF k)).length c2] 33)))
      have HB1 := Lib.hid (below_then HBW.out (hb2.alloc hb2.size (.cells #[.string (nmF k), .slice A2 (validU (facF k)).length c2] 33)))
      have HS1 := Lib.hid (Sl.new (s := 2) w1 33 1 1 #[.string (nmF k), .slice A2 (validU (facF k)).length c2] rfl (Nat.le_refl _) (by decide))
      have HX1 : Hid (∀ ps : List (La × Value), ps.map (·.1) = fl.take k → (w1.alloc (.cells #[.string (nmF k), .slice A2 (validU (facF k)).length c2] 33)).ownsRow (w.heap.size + 1) 33 2 (.slice A1 k c1) k (ladCells ps) → xs = ladCells ps) := fun ps _ h2 => own_cells_eq HO1.out h2
      have hsz1 := hb2.size
      have hxl : xs.length = k * 2 := HOW.out.1
      clear hsl hb1 hb2 s0 HCV
      go_wp2_with (at_builtin; refine appLad _ _ rfl rfl rfl rfl HO1.out HS1.out (by simp [Value.oneCell']) (N := k + 1) (by simp; omega) (by omega) (by simp; omega) ?_; intro A3 c3 w2 hap)
      have HLN := Lib.hid (HL1.out.add hlt HU1.out hap HX1.out)
      have HBN := Lib.hid (HB1.out.grown hap.grown (by have := HB1.out.size; omega) (fun g hg => by have := own_ge HO1.out hg; omega))
      clear hap
      go_wp2
      go_roundw
      case rel => exact ⟨k + 1, by go_num, hlt, HLN, HBN⟩
      case measure => simp [intOf]; omega
    · have hlo4 : LO wr (w.heap.size + 1) _ 4 := (show k = 4 by omega) ▸ hlo.out
      obtain ⟨V, hV⟩ : ∃ V : World, V = wr := ⟨_, rfl⟩
      subst hV
      obtain ⟨lb, lc, rfl, hat⟩ := hlo4.at
      have HAT := Lib.hid hat
      have HLO := Lib.hid hlo4
      have HBV := Lib.hid (below_then hw0 hB.out)
      have HNM := Lib.hid (HY0.out.below HY0.out.lt hB.out)
      have hVs := HBV.out.size
      have HZV := Lib.hid (fun (w' : World) (hb : Below V.heap.size V w') => (HZ.out.below HBV.out).below hb)
      clear hat hlo hlo4 hB hw0 Y0
      go_wp2
      go_loopw [7, 8] (fun bv i wq => ∃ k : Nat, i = .int .i64 k ∧ k ≤ l.length ∧ k ≤ 6 ∧ wq.ownsRow V.heap.size 83 6 bv k (brsV ((l.take k).map lkBr)) ∧ Hid (Below V.heap.size V wq)) (fun _ i _ => l.length - (intOf i).toNat)
      case atStart => exact ⟨0, rfl, by omega, by omega, World.ownsRow_nil _ _ _ _, Below.refl _ _⟩
      case round =>
        obtain ⟨wq, hwq⟩ : ∃ wq : World, wq = wr := ⟨_, rfl⟩
        subst hwq
        obtain ⟨j, rfl, hj, hj6, hown, hB⟩ := hrel
        obtain ⟨A1, c1, rfl, hown⟩ := own_shape hown
        have HO := Lib.hid hown
        by_cases hgo : j < l.length ∧ j < 6
        · obtain ⟨hlt, h6⟩ := hgo
          have d2 : decide ((j : Int) < 6) = true := decide_eq_true (by omega)
          obtain ⟨b, o, e, _, hce⟩ := HC.out (by omega)
          subst e
          have hbl := below_then HBV.out hB.out
          have g : ∀ t (ht : t < 6) u, (lkV l[j])[t]? = some u → wq.cell? ⟨b, o + (j * 6 + t), none⟩ = some u := fun t ht u hu => below_cell hbl (hce _ _ (by rw [lksV_get hlt t ht]; exact hu))
          have hk := HBD.out l[j] (List.getElem_mem _)
          have HT := Lib.hid (linksB_take hlt)
          generalize l[j] = lk at *
          have g0 := g 0 (by decide) _ rfl
          have g1 := g 1 (by decide) _ rfl
          have g2 := g 2 (by decide) _ rfl
          have g3 := g 3 (by decide) _ rfl
          have g4 := g 4 (by decide) _ rfl
          have g5 := g 5 (by decide) _ rfl
          simp only [← Nat.add_assoc, Nat.add_zero] at g0 g1 g2 g3 g4 g5
          obtain ⟨b1, b2, b3, b4, b5, b6⟩ := hk
          have KR := Lib.hid (fun w' hz => lkRatio lk w' hz)
          have KN := Lib.hid (fun w' => bring12 lk.N w' b5)
          have KD := Lib.hid (fun w' => bring12 lk.D w' b6)
          have KF := Lib.hid (fun w' => bring4 lk.From w' b1)
          have KT := Lib.hid (fun w' => bring4 lk.To w' b3)
          have KA := Lib.hid (fun w' => bring4 lk.SA w' b2)
          have KB := Lib.hid (fun w' => bring4 lk.SB w' b4)
          have hf := m4_lt lk.From
          have ht := m4_lt lk.To
          have hsa := m4_lt lk.SA
          have hsb := m4_lt lk.SB
          have hn1 : 0 ≤ lk.N % 12 := by omega
          have hn2 : lk.N % 12 < 12 := by omega
          have hd1 : 0 ≤ lk.D % 12 := by omega
          have hd2 : lk.D % 12 < 12 := by omega
          have HBR := Lib.hid (show brV (lkBr lk) = [.string (nmF (m4 lk.From)), .string (sgnB (m4 lk.SA)), .string (nmF (m4 lk.To)), .string (sgnB (m4 lk.SB)), .int .i64 (lkR lk).n, .int .i64 (lkR lk).d] from rfl)
          have HBRE := Lib.hid (show brsV ((l.take j).map lkBr ++ [lkBr lk]) = brsV ((l.take j).map lkBr) ++ brV (lkBr lk) by simp [brsV])
          obtain ⟨F, SA, T, SB, N, D⟩ := lk
          simp only at g0 g1 g2 g3 g4 g5 KN KD KF KT KA KB hf ht hsa hsb hn1 hn2 hd1 hd2 KR HBR
          generalize lkR ⟨F, SA, T, SB, N, D⟩ = rr at *
          obtain ⟨rn, rd, re⟩ := rr
          simp only at KR HBR
          generalize lkBr ⟨F, SA, T, SB, N, D⟩ = br at *
          generalize m4 F = f at *
          generalize m4 T = t at *
          generalize m4 SA = sa at *
          generalize m4 SB = sb at *
          have hsz := hB.out.size
          have Y := Cel.new wq 135 #[.int .i64 F, .int .i64 SA, .int .i64 T, .int .i64 SB, .int .i64 N, .int .i64 D]
          have HB1 := Lib.hid (hB.out.alloc hsz (.cells #[.int .i64 F, .int .i64 SA, .int .i64 T, .int .i64 SB, .int .i64 N, .int .i64 D] 135))
          have HO1 := Lib.hid (HO.out.alloc (.cells #[.int .i64 F, .int .i64 SA, .int .i64 T, .int .i64 SB, .int .i64 N, .int .i64 D] 135))
          have hbq := hB
          clear hce g b1 b2 b3 b4 b5 b6 hbl hB hown HO
          go_upto_region 12 with fail
          obtain ⟨U, hU⟩ : ∃ U, wq.alloc (.cells #[.int .i64 F, .int .i64 SA, .int .i64 T, .int .i64 SB, .int .i64 N, .int .i64 D] 135) = U := ⟨_, rfl⟩
          have hUs : U.heap.size = wq.heap.size + 1 := by rw [← hU]; simp
          rw [hU] at Y HB1 HO1 ⊢
          clear hU g0 g1 g2 g3 g4 g5
          have HY := Lib.hid Y
          have hUs1 : V.heap.size ≤ U.heap.size := by omega
          have hUs2 : wq.heap.size < U.heap.size := by omega
          have HUs := Lib.hid hUs
          clear hUs
          have y4 := Y.cell 4 (.int .i64 N) rfl
          have y5 := Y.cell 5 (.int .i64 D) rfl
          have hw1 : IntKind.i64.wrap (1 + N % 12) = 1 + N % 12 := by rw [IntKind.wrap_i64]; omega
          have hw2 : IntKind.i64.wrap (1 + D % 12) = 1 + D % 12 := by rw [IntKind.wrap_i64]; omega
          go_cut [10, 11] (fun t10 t11 wx => ∃ (Wx : World) (B : Nat), Wx = wx ∧ t10 = .pointer (some ⟨B, 0, none⟩) ∧ t11 = .bool true ∧ Cel wx B 23 #[.int .i64 rn, .int .i64 rd] ∧ U.heap.size ≤ B ∧ Below U.heap.size U wx)
          case first =>
            have HE : Hid (∀ w', Below U.heap.size U w' → w'.cell? ⟨wq.heap.size, 4, none⟩ = some (.int .i64 N) ∧ w'.cell? ⟨wq.heap.size, 5, none⟩ = some (.int .i64 D)) := fun w' hb => ⟨(HY.out.below HY.out.lt hb).cell 4 _ rfl, (HY.out.below HY.out.lt hb).cell 5 _ rfl⟩
            have hU0 := Lib.hid (Below.refl U.heap.size U)
            go_region_held3 (fun w' => w'.cell? ⟨wq.heap.size, 4, none⟩ = some (.int .i64 N) ∧ w'.cell? ⟨wq.heap.size, 5, none⟩ = some (.int .i64 D)) (first | exact HE.out _ (by repeat (first | exact hB2 | exact hU0.out | refine below_drew ?_ | refine Below.setCell ?_ (by first | omega | (simp; done) | (simp; omega)) _ | refine Below.alloc ?_ (by first | omega | (simp; done) | (simp; omega)) _)) | go_keep)
              (first
              | (go_at_call_of 36 (Value.int .i64 N); refine (KN.out _).mono ?_; rintro e w' ⟨rfl, rfl⟩)
              | (go_at_call_of 36 (Value.int .i64 D); refine (KD.out _).mono ?_; rintro e w' ⟨rfl, rfl⟩)
              | (go_at_call 46; refine (KR.out _ (HZV.out _ (HB1.out.trans (Below.mono (by repeat (first | exact hU0.out | refine below_drew ?_ | refine Below.alloc ?_ (by first | omega | (simp; done) | (simp; omega)) _)) hUs1)))).mono ?_; rintro e w1 ⟨rfl, hb1⟩; have hB2s := hb1.size; have hB2 := (show Below U.heap.size U w1 from Below.trans (by repeat (first | exact hU0.out | refine below_drew ?_ | refine Below.alloc ?_ (by first | omega | (simp; done) | (simp; omega)) _)) (hb1.mono (by simp))); have hB2z := hB2.size; have HBW := Lib.hid hB2; (first | (have hy := (show Cel ((U.alloc (.cells #[.int .i64 0, .int .i64 0] 23)).drew) U.heap.size 23 #[.int .i64 0, .int .i64 0] from Cel.new U _ _).below (by simp) hb1; have z0 := hy.cell 0 (.int .i64 0) rfl; have z1 := hy.cell 1 (.int .i64 0) rfl; have q0 := hy.frozen 0; have q1 := hy.frozen 1; have HYY := Lib.hid hy; clear hy) | skip)))
            all_goals (
              go_wp2
              go_meet
              first
              | exact ⟨_, w1.heap.size, rfl, rfl, rfl, Cel.new w1 _ _, by have := HBW.out.size; omega, HBW.out.alloc HBW.out.size _⟩
              | exact ⟨_, U.heap.size, rfl, rfl, rfl, HYY.out.set2 _ _, Nat.le_refl _, (HBW.out.setCell (p := ⟨U.heap.size, 0, none⟩) (Nat.le_refl _) _).setCell (p := ⟨U.heap.size, 1, none⟩) (Nat.le_refl _) _⟩)
          case rest =>
            obtain ⟨U1, B, rfl, rfl, rfl, hR, hBU, hb1⟩ := hcut
            have HY1 := Lib.hid (HY.out.below HY.out.lt hb1)
            have HR1 := Lib.hid hR
            have HO2 := Lib.hid (own_below HO1.out hb1)
            have HBV1 := Lib.hid (HB1.out.trans (hb1.mono hUs1))
            have hU1s := hb1.size
            clear hR hb1 y4 y5 hw1 hw2 Y HY HO1 HB1 KN KD KR hbq hn1 hn2 hd1 hd2
            have y0 := HY1.out.cell 0 (.int .i64 F) rfl
            have y2 := HY1.out.cell 2 (.int .i64 T) rfl
            go_upto_region 15 with fail
            go_quiet ((first | (go_at_call_of 36 (Value.int .i64 F); exact quiet_left (KF.out _)) | (go_at_call_of 36 (Value.int .i64 T); exact quiet_left (KT.out _))))
            go_upto_region 16 with fail
            have HX1 := Lib.hid (show Cel (U1.drewN nq) _ _ _ from HY1.out.below HY1.out.lt (below_drewN' U1 nq))
            have HX2 := Lib.hid (show Cel (U1.drewN nq) _ _ _ from HR1.out.below HR1.out.lt (below_drewN' U1 nq))
            have HO3 := Lib.hid (own_drewN HO2.out nq)
            have HBX := Lib.hid (below_drewN HBV1.out nq)
            obtain ⟨X, hX⟩ : ∃ X, U1.drewN nq = X := ⟨_, rfl⟩
            have hXs : U1.heap.size = X.heap.size := by rw [← hX]; simp
            rw [hX] at HX1 HX2 HO3 HBX ⊢
            have hXl : wq.heap.size < X.heap.size := by omega
            clear hXs
            clear hX HY1 HR1 HO2 HBV1 y0 y2 KF KT
            obtain ⟨ub, uo, uc, p1, hu1, p2⟩ := HAT.out f hf
            obtain ⟨ub2, uo2, uc2, p3, hu2, p4⟩ := HAT.out t ht
            have p2 := p2 sa hsa
            have p4 := p4 sb hsb
            have HE : Hid (∀ w', Below X.heap.size X w' → w'.cell? ⟨w.heap.size, f, none⟩ = some (.string (nmF f)) ∧ w'.cell? ⟨lb, f * 2 + 1, none⟩ = some (.slice (some ⟨ub, uo, none⟩) 4 uc) ∧ w'.cell? ⟨wq.heap.size, 1, none⟩ = some (.int .i64 SA) ∧ w'.cell? ⟨ub, uo + sa * 2, none⟩ = some (.string (sgnB sa)) ∧
                w'.cell? ⟨w.heap.size, t, none⟩ = some (.string (nmF t)) ∧ w'.cell? ⟨lb, t * 2 + 1, none⟩ = some (.slice (some ⟨ub2, uo2, none⟩) 4 uc2) ∧ w'.cell? ⟨wq.heap.size, 3, none⟩ = some (.int .i64 SB) ∧ w'.cell? ⟨ub2, uo2 + sb * 2, none⟩ = some (.string (sgnB sb)) ∧
                w'.cell? ⟨B, 0, none⟩ = some (.int .i64 rn) ∧ w'.cell? ⟨B, 1, none⟩ = some (.int .i64 rd)) := fun w' hb => by
              have hv : Below V.heap.size V w' := HBX.out.trans (hb.mono HBX.out.size)
              have hn := HNM.out.below HNM.out.lt hv
              have h1 := HX1.out.below HX1.out.lt hb
              have h2 := HX2.out.below HX2.out.lt hb
              exact ⟨hn.cell f _ (nms4_get hf), below_cell hv p1, h1.cell 1 _ rfl, below_cell hv p2, hn.cell t _ (nms4_get ht), below_cell hv p3, h1.cell 3 _ rfl, below_cell hv p4, h2.cell 0 _ rfl, h2.cell 1 _ rfl⟩
            obtain ⟨e0, e1, e2, e3, e4, e5, e6, e7, e8, e9⟩ := HE.out X (Below.refl _ _)
            have i1 : (0 : Int) ≤ (f : Int) := by omega
            have i2 : (f : Int) < 4 := by omega
            have i3 : (0 : Int) ≤ (t : Int) := by omega
            have i4 : (t : Int) < 4 := by omega
            have i5 : (0 : Int) ≤ (sa : Int) := by omega
            have i6 : (sa : Int) < 4 := by omega
            have i7 : (0 : Int) ≤ (sb : Int) := by omega
            have i8 : (sb : Int) < 4 := by omega
            have hXV := HBX.out.size
            have hX0 := Lib.hid (Below.refl X.heap.size X)
            have HP := Lib.hid (And.intro p1 (And.intro p2 (And.intro p3 p4)))
            clear p1 p2 p3 p4
            go_region_held3 (fun w' => w'.cell? ⟨w.heap.size, f, none⟩ = some (.string (nmF f)) ∧ w'.cell? ⟨lb, f * 2 + 1, none⟩ = some (.slice (some ⟨ub, uo, none⟩) 4 uc) ∧ w'.cell? ⟨wq.heap.size, 1, none⟩ = some (.int .i64 SA) ∧ w'.cell? ⟨ub, uo + sa * 2, none⟩ = some (.string (sgnB sa)) ∧
                w'.cell? ⟨w.heap.size, t, none⟩ = some (.string (nmF t)) ∧ w'.cell? ⟨lb, t * 2 + 1, none⟩ = some (.slice (some ⟨ub2, uo2, none⟩) 4 uc2) ∧ w'.cell? ⟨wq.heap.size, 3, none⟩ = some (.int .i64 SB) ∧ w'.cell? ⟨ub2, uo2 + sb * 2, none⟩ = some (.string (sgnB sb)) ∧
                w'.cell? ⟨B, 0, none⟩ = some (.int .i64 rn) ∧ w'.cell? ⟨B, 1, none⟩ = some (.int .i64 rd)) (first | exact ⟨f0, f1, f2, f3, f4, f5, f6, f7, f8, f9⟩ | exact HE.out _ (by repeat (first | exact hX0.out | refine below_drew ?_ | refine Below.alloc ?_ (by first | omega | (simp; done) | (simp; omega)) _)) | go_keep)
              (first
              | (go_at_call_of 36 (Value.int .i64 SA); refine (KA.out _).mono ?_; rintro e w' ⟨rfl, rfl⟩)
              | (go_at_call_of 36 (Value.int .i64 SB); refine (KB.out _).mono ?_; rintro e w' ⟨rfl, rfl⟩)
              | (refine stepBri (.tmp 68) (.tmp 101) rfl rfl (by rfl) (by rfl) (own_alloc (show World.ownsRow (World.drew X) _ _ _ _ _ _ from HO3.out)) (Sl.new (s := 6) _ 83 1 1 #[.string (nmF f), .string (sgnB sa), .string (nmF t), .string (sgnB sb), .int .i64 rn, .int .i64 rd] rfl (Nat.le_refl _) (by decide)) (by simp [Value.oneCell']) (N := j + 1) (by simp; omega) (by omega) (by simp; omega) ?_; intro A3 c3 w1 hap; have hA := own_alloc (o := .cells #[.string (nmF f), .string (sgnB sa), .string (nmF t), .string (sgnB sb), .int .i64 rn, .int .i64 rd] 83) (show World.ownsRow (World.drew X) _ _ _ _ _ _ from HO3.out); have hB2 : Below V.heap.size V w1 := (show Below V.heap.size V (World.alloc (World.drew X) (.cells #[.string (nmF f), .string (sgnB sa), .string (nmF t), .string (sgnB sb), .int .i64 rn, .int .i64 rd] 83)) from Below.alloc (below_drew HBX.out) (by simp; omega) _).grown hap.grown (by simp; omega) (fun g hg => own_ge hA hg); have hn := HNM.out.below HNM.out.lt hB2; have x1 := (show Cel ((World.drew X).alloc (.cells #[.string (nmF f), .string (sgnB sa), .string (nmF t), .string (sgnB sb), .int .i64 rn, .int .i64 rd] 83)) _ _ _ from Cel.alloc (show Cel (World.drew X) _ _ _ from HX1.out) _).keptT hap.grown (fun g hg => own_typed hA hg) (by decide); have x2 := (show Cel ((World.drew X).alloc (.cells #[.string (nmF f), .string (sgnB sa), .string (nmF t), .string (sgnB sb), .int .i64 rn, .int .i64 rd] 83)) _ _ _ from Cel.alloc (show Cel (World.drew X) _ _ _ from HX2.out) _).keptT hap.grown (fun g hg => own_typed hA hg) (by decide); have f0 := hn.cell f _ (nms4_get hf); have f1 := below_cell hB2 HP.out.1; have f2 := x1.cell 1 (.int .i64 SA) rfl; have f3 := below_cell hB2 HP.out.2.1; have f4 := hn.cell t _ (nms4_get ht); have f5 := below_cell hB2 HP.out.2.2.1; have f6 := x1.cell 3 (.int .i64 SB) rfl; have f7 := below_cell hB2 HP.out.2.2.2; have f8 := x2.cell 0 (.int .i64 rn) rfl; have f9 := x2.cell 1 (.int .i64 rd) rfl; have HOW := Lib.hid hap.own; have HB2 := Lib.hid hB2; clear hap hA hn x1 x2 hB2))
            all_goals (
              go_wp2
              go_roundw
              case rel => exact ⟨j + 1, by go_num, hlt, by omega, by rw [HT.out, HBRE.out, HBR.out]; exact HOW.out, HB2.out⟩
              case measure => simp [intOf]; omega)
        · have hgo' : j = l.length ∨ (j < l.length ∧ decide ((j : Int) < 6) = false) := by
            rcases Nat.lt_or_ge j l.length with h | h
            · exact .inr ⟨h, decide_eq_false (by omega)⟩
            · exact .inl (by omega)
          have HE := Lib.hid (show (l.take j).map lkBr = linksB l by
            unfold linksB
            rcases hgo' with h | ⟨h, h2⟩
            · rw [List.take_of_length_le (by omega), List.take_of_length_le (by omega)]
            · have : j = 6 := by have := of_decide_eq_false h2; omega
              rw [this])
          have HR := Lib.hid (show LadsV wq (.slice (some ⟨lb, 0, none⟩) 4 lc) fl ∧ Sl wq 6 (.slice A1 j c1) (brsV (linksB l)) ∧ Below w.heap.size w wq from ⟨(HLO.out.below hB.out).lads, by rw [← HE.out]; exact Sl.of_own HO.out, below_then HBV.out hB.out⟩)
          clear hown hgo hB
          rcases hgo' with rfl | ⟨hlt, d6⟩
          · go_wp2
            go_ret2
            exact ⟨_, _, rfl, HR.out⟩
          · go_wp2
            go_ret2
            exact ⟨_, _, rfl, HR.out⟩
end Go.Proofs.YtmibpncmebhbjaaDoor
