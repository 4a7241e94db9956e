/- MetroBridgeOrder: the walk. -/
import Derived.Test.YtmibpncmebhbjaaDoorP10
import Derived.Test.YtmibpncmebhbjaaDoorTrn1
import Derived.Test.YtmibpncmebhbjaaDoorTrn2
import Derived.Test.YtmibpncmebhbjaaDoorFou3
import Derived.Test.YtmibpncmebhbjaaDoorRow14
import Derived.Deep.RegionHeld3
import Derived.Deep.DeepCutAuto
namespace Go.Proofs.YtmibpncmebhbjaaDoor
open Go Go.RowKit Go.Shelf
attribute [local go_sem] Oper.semAt_some rrV

theorem brsV_cut (l : List Br) (m : Nat) (x : Br) : brsV (l.take m ++ ([x] ++ l.drop m)) = (brsV l).take (m * 6) ++ (brV x ++ (brsV l).drop (m * 6)) := by
  rw [brsV_append, brsV_append, brsV_take, brsV_drop]
  simp [brsV]

theorem brsV_one (l : List Br) : ∀ u ∈ brsV l, u.oneCell' = true := by
  intro u hu
  obtain ⟨b, _, h⟩ := List.mem_flatMap.1 hu
  simp [brV] at h
  rcases h with rfl | rfl | rfl | rfl | rfl | rfl <;> rfl

set_option maxRecDepth 100000 in
set_option maxHeartbeats 4000000 in
theorem bridgeOrder_any (l : List Lk) (v : Value) (od : List Int) (u : Value) (tu : List Bool) (y : Value) (w : World) (hz : Zw w) (hv : Sl w 6 v (lksV l)) (hbd : ∀ k ∈ l, LkBd k) (hu : Sl w 1 u (od.map (Value.int .i64))) (hod : ∀ x ∈ od, Bd x) (hy : Sl w 1 y (tu.map Value.bool)) :
    Calls Tryd.prog 9 #[v, u, y] w fun e w' => e = .returned (.bool true) ∧ Below w.heap.size w w' := by
  obtain ⟨OA, oc, rfl, hlc, hcm, hcell⟩ := hu.open1
  obtain ⟨TA, tc, rfl, hlc', hcm', hcell'⟩ := hy.open1
  simp only [List.length_map] at hlc hcell hlc' hcell' ⊢
  have HOC := Lib.hid hcell
  have HTC := Lib.hid hcell'
  have HOD := Lib.hid hod
  have HF := Lib.hid (four_any l v w hz hv hbd)
  have HZ := Lib.hid (fun (w' : World) (hb : Below w.heap.size w w') => hz.below hb)
  have C9 := Lib.hid (fun (w' : World) (hb : Below w.heap.size w w') => works_any w' (hz.below hb))
  have HL6 := Lib.hid (linksB_length l)
  have HLE := Lib.hid (brE_links l)
  have HFLIP : Hid (∀ b ∈ linksB l, ratioF b.D b.N = ⟨b.D, b.N, 0⟩ ∧ brE (st0 fl) (turnB b) = 0) := fun b hb => by
    obtain ⟨k, _, rfl⟩ := List.mem_map.1 hb
    exact ⟨lk_flip k, brE_turn k⟩
  clear hcell hcell' hu hv hbd hz hod hy
  generalize linksB l = bs at *
  go_enter Tryd.func9, Tryd.ntmps9
  go_wp2_with fail
  go_fit HF.out
  rintro e w1 ⟨v1, v2, rfl, hl, hs, hb1⟩
  have HB1 := Lib.hid hb1
  have HLD := Lib.hid hl
  have HS := Lib.hid hs
  obtain ⟨BA, n', bc, rfl, hm, hmc, hcm2, hbk⟩ := hs.open2 (by decide)
  have hn' : n' = bs.length := by rw [brsV_length] at hm; omega
  subst hn'
  have HBK := Lib.hid hbk
  clear hl hs hb1 hbk hm HF
  have h6 := HL6.out
  obtain ⟨V, hV⟩ : ∃ V : World, V = w1 := ⟨_, rfl⟩
  subst hV
  go_wp2_with fail
  go_loopw [9, 10] (fun x i wr => ∃ (k : Nat) (nx : List Br), i = .int .i64 k ∧ k ≤ bs.length ∧ Hid (Tn (bs.take k) nx) ∧ wr.ownsRow V.heap.size 83 6 x k (brsV nx) ∧ Hid (Below V.heap.size V wr)) (fun _ i _ => bs.length - (intOf i).toNat)
  case atStart => exact ⟨0, [], rfl, by omega, Tn.nil, World.ownsRow_nil _ _ _ _, Below.refl _ _⟩
  case round =>
    obtain ⟨k, nx, rfl, hk, HT, hown, hB⟩ := hrel
    obtain ⟨A1, c1, rfl, hown⟩ := own_shape hown
    have HO := Lib.hid hown
    by_cases hlt : k < bs.length
    · have hkn : nx.length = k := by have := HT.out.len; simp at this; omega
      have HKN := Lib.hid hkn
      obtain ⟨b, o, e, _, hce⟩ := HBK.out (by omega)
      subst e
      have g : ∀ t (ht : t < 6) u, (brV bs[k])[t]? = some u → wr.cell? ⟨b, o + (k * 6 + t), none⟩ = some u := fun t ht u hu => below_cell hB.out (hce _ _ (by rw [brsV_get hlt t ht]; exact hu))
      have hmem := List.getElem_mem hlt
      have HMB := Lib.hid (And.intro (HLE.out _ hmem) (HFLIP.out _ hmem))
      have HST := Lib.hid (List.take_succ_eq_append_getElem hlt)
      generalize hbr : bs[k] = br at *
      clear hbr hmem
      have g0 := g 0 (by decide) _ rfl
      have g1 := g 1 (by decide) _ rfl
      have g2 := g 2 (by decide) _ rfl
      have g3 := g 3 (by decide) _ rfl
      have g4 := g 4 (by decide) _ rfl
      have g5 := g 5 (by decide) _ rfl
      simp only [← Nat.add_assoc, Nat.add_zero] at g0 g1 g2 g3 g4 g5
      have k1 : (0 : Int) ≤ (k : Int) := by omega
      have k2 : (k : Int) < (bs.length : Int) := by omega
      have hsz := hB.out.size
      have HVW : Hid (∀ w', Below wr.heap.size wr w' → Below w.heap.size w w') := fun w' hb => below_then HB1.out (below_then hB.out hb)
      have KR : Hid (∀ w', Below wr.heap.size wr w' → Calls Tryd.prog 46 #[.int .i64 br.D, .int .i64 br.N] w' fun e w'' => e = .returned (.tuple #[.agg #[.int .i64 br.D, .int .i64 br.N], .bool true]) ∧ Below w'.heap.size w' w'') := fun w' hb => by
        have := lawratio_any br.D br.N w' (HZ.out _ (HVW.out _ hb)) br.hD.1 br.hD.2 br.hN.1 br.hN.2
        rw [HMB.out.2.1] at this
        exact this
      clear hown hce g hkn
      go_upto_region 7 with fail
      have Y := Cel.new wr 83 #[.string br.A, .string br.SA, .string br.B, .string br.SB, .int .i64 br.N, .int .i64 br.D]
      have hBW := below_alloc' wr (.cells #[.string br.A, .string br.SA, .string br.B, .string br.SB, .int .i64 br.N, .int .i64 br.D] 83)
      obtain ⟨W, hW⟩ : ∃ W, wr.alloc (.cells #[.string br.A, .string br.SA, .string br.B, .string br.SB, .int .i64 br.N, .int .i64 br.D] 83) = W := ⟨_, rfl⟩
      have hWs : W.heap.size = wr.heap.size + 1 := by rw [← hW]; simp
      rw [hW] at Y hBW ⊢
      have HY := Lib.hid Y
      have HBW := Lib.hid hBW
      have HWS := Lib.hid hWs
      clear hW g0 g1 g2 g3 g4 g5 Y hBW hWs
      go_cut [50] (fun t wx => ∃ (Wx : World) (q : Bool), Wx = wx ∧ t = .bool q ∧ wx = W)
      case first =>
        by_cases ht : k < tu.length
        · obtain ⟨ad, rfl, q0⟩ := HTC.out k (.bool tu[k]) (by simp [ht])
          have q0 := below_cell (HVW.out _ HBW.out) q0
          generalize tu[k] = q at *
          have k3 : (k : Int) < (tu.length : Int) := by omega
          go_wp2_with fail
          go_meet
          exact ⟨_, q, rfl, rfl, rfl⟩
        · go_wp2_with fail
          go_meet
          exact ⟨_, false, rfl, rfl, rfl⟩
      case rest =>
        obtain ⟨Wx, q, rfl, rfl, rfl⟩ := hcut
        go_upto_if 50 with fail
        go_cut [11] (fun t wx => ∃ (U : World) (x : Br), U = wx ∧ t = .pointer (some ⟨wr.heap.size, 0, none⟩) ∧ Cel U wr.heap.size 83 #[.string x.A, .string x.SA, .string x.B, .string x.SB, .int .i64 x.N, .int .i64 x.D] ∧ (x = br ∨ x = turnB br) ∧ brE (st0 fl) x = 0 ∧ Below wr.heap.size wr U)
        case first =>
          cases q with
          | false =>
            go_wp2_with fail
            go_meet
            exact ⟨_, br, rfl, rfl, HY.out, .inl rfl, HMB.out.1, HBW.out⟩
          | true =>
            have y4 := HY.out.cell 4 _ rfl
            have y5 := HY.out.cell 5 _ rfl
            go_wp2_with fail
            go_fit (KR.out _ HBW.out)
            rintro e w2 ⟨rfl, hb⟩
            have HY2 := Lib.hid ((HY.out.below HY.out.lt hb).alloc (.cells #[.int .i64 br.D, .int .i64 br.N] 23))
            have HB2 := Lib.hid ((below_then HBW.out hb).alloc (below_then HBW.out hb).size (.cells #[.int .i64 br.D, .int .i64 br.N] 23))
            have HR2 := Lib.hid (Cel.new w2 23 #[.int .i64 br.D, .int .i64 br.N])
            have z0 := HY2.out.cell 0 _ rfl
            have z1 := HY2.out.cell 1 _ rfl
            have z2 := HY2.out.cell 2 _ rfl
            have z3 := HY2.out.cell 3 _ rfl
            have z4 := HY2.out.cell 4 _ rfl
            have z5 := HY2.out.cell 5 _ rfl
            have r0 := HR2.out.cell 0 _ rfl
            have r1 := HR2.out.cell 1 _ rfl
            have f0 := HY2.out.frozen 0
            have f1 := HY2.out.frozen 1
            have f2 := HY2.out.frozen 2
            have f3 := HY2.out.frozen 3
            have f4 := HY2.out.frozen 4
            have f5 := HY2.out.frozen 5
            clear y4 y5 hb
            go_wp2_with fail
            go_meet
            refine ⟨_, turnB br, rfl, rfl, ((((((HY2.out.setAt 0 _).setAt 1 _).setAt 2 _).setAt 3 _).setAt 4 _).setAt 5 _), .inr rfl, HMB.out.2.2, ?_⟩
            exact ((((((HB2.out.setCell (p := ⟨wr.heap.size, 0, none⟩) (Nat.le_refl _) _).setCell (p := ⟨wr.heap.size, 1, none⟩) (Nat.le_refl _) _).setCell (p := ⟨wr.heap.size, 2, none⟩) (Nat.le_refl _) _).setCell (p := ⟨wr.heap.size, 3, none⟩) (Nat.le_refl _) _).setCell (p := ⟨wr.heap.size, 4, none⟩) (Nat.le_refl _) _).setCell (p := ⟨wr.heap.size, 5, none⟩) (Nat.le_refl _) _)
        case rest =>
          obtain ⟨U, x, rfl, rfl, hX, hx1, hx2, hBU⟩ := hcut
          have HX := Lib.hid hX
          have HXT := Lib.hid (And.intro hx1 hx2)
          have HBU := Lib.hid hBU
          have HBR0 := Lib.hid HMB.out.1
          clear hX hx1 hx2 hBU KR HY HBW HWS HMB
          go_upto_if 78 with fail
          go_cut [14] (fun t wx => ∃ (U' : World) (m : Nat), U' = wx ∧ t = .int .i64 m ∧ m ≤ k ∧ wx = U)
          case first =>
            by_cases ht : k < od.length
            · obtain ⟨ad, rfl, q0⟩ := HOC.out k (.int .i64 od[k]) (by simp [ht])
              have q0 := below_cell (HVW.out _ HBU.out) q0
              have hbo := HOD.out od[k] (List.getElem_mem _)
              generalize od[k] = z at *
              have k3 : (k : Int) < (od.length : Int) := by omega
              have kw : IntKind.i64.wrap ((k : Int) + 1) = (k : Int) + 1 := by rw [IntKind.wrap_i64]; omega
              have hbr1 := Int.emod_nonneg z (show ((k : Int) + 1) ≠ 0 by omega)
              have hbr2 := Int.emod_lt_of_pos z (show (0 : Int) < (k : Int) + 1 by omega)
              obtain ⟨m, hm⟩ := Int.eq_ofNat_of_zero_le hbr1
              have HBR := Lib.hid (fun W => bring_any z ((k : Int) + 1) W hbo.1 hbo.2 (by omega) (by omega))
              rw [show bringF z ((k : Int) + 1) = z % ((k : Int) + 1) from if_neg (by omega), hm] at HBR
              have hmk : m ≤ k := by omega
              clear hbr1 hbr2 hm hbo
              go_wp2_with fail
              go_fit (HBR.out U)
              rintro e w2 ⟨rfl, rfl⟩
              go_wp2_with fail
              go_meet
              exact ⟨_, m, rfl, rfl, hmk, rfl⟩
            · go_wp2_with fail
              go_meet
              exact ⟨_, k, rfl, rfl, Nat.le_refl _, rfl⟩
          case rest =>
            obtain ⟨U', m, rfl, rfl, hmk, rfl⟩ := hcut
            have HOU := Lib.hid (own_below HO.out HBU.out)
            have HSU := Lib.hid (Sl.of_own HOU.out)
            have hc1 : k ≤ c1 := by obtain ⟨_, _, e, h, _, _⟩ := own_slice HOU.out; cases e; exact h
            obtain ⟨V1, hV1⟩ : ∃ V1, sliced A1 0 m c1 6 = V1 := ⟨_, rfl⟩
            obtain ⟨V2, hV2⟩ : ∃ V2, sliced A1 m k c1 6 = V2 := ⟨_, rfl⟩
            have r1 := bri_to A1 k c1 m (by omega)
            have r2 := bri_from A1 k c1 m (by omega)
            rw [hV1] at r1
            rw [hV2] at r2
            have HP1 := Lib.hid (show Sl U' 6 V1 ((brsV nx).take (m * 6)) by rw [← hV1]; exact HSU.out.to hmk)
            have HP2 := Lib.hid (show Sl U' 6 V2 ((brsV nx).drop (m * 6)) by rw [← hV2]; exact HSU.out.from hmk)
            have HNN := Lib.hid (show (brsV nx).length = k * 6 by rw [brsV_length, HKN.out])
            have HN1 := Lib.hid (show ((brsV nx).take (m * 6)).length = m * 6 by rw [List.length_take, HNN.out]; omega)
            have HN2 := Lib.hid (show ((brsV nx).drop (m * 6)).length = (k - m) * 6 by rw [List.length_drop, HNN.out]; omega)
            have HC0 := Lib.hid (brsV_one nx)
            have HC1 : Hid (∀ u ∈ (brsV nx).take (m * 6), u.oneCell' = true) := fun u hu => HC0.out u (List.mem_of_mem_take hu)
            have HC2 : Hid (∀ u ∈ (brsV nx).drop (m * 6), u.oneCell' = true) := fun u hu => HC0.out u (List.mem_of_mem_drop hu)
            have hU0 := Lib.hid (Below.refl U'.heap.size U')
            have HEX : Hid (∀ w', Below U'.heap.size U' w' → w'.cell? ⟨wr.heap.size, 0, none⟩ = some (.string x.A) ∧ w'.cell? ⟨wr.heap.size, 1, none⟩ = some (.string x.SA) ∧ w'.cell? ⟨wr.heap.size, 2, none⟩ = some (.string x.B) ∧ w'.cell? ⟨wr.heap.size, 3, none⟩ = some (.string x.SB) ∧ w'.cell? ⟨wr.heap.size, 4, none⟩ = some (.int .i64 x.N) ∧ w'.cell? ⟨wr.heap.size, 5, none⟩ = some (.int .i64 x.D)) := fun w' hb => by
              have h1 := HX.out.below HX.out.lt hb
              exact ⟨h1.cell 0 _ rfl, h1.cell 1 _ rfl, h1.cell 2 _ rfl, h1.cell 3 _ rfl, h1.cell 4 _ rfl, h1.cell 5 _ rfl⟩
            obtain ⟨x0, x1, x2, x3, x4, x5⟩ := HEX.out U' (Below.refl _ _)
            have hs6 := HBU.out.size
            have hs6v : V.heap.size ≤ U'.heap.size := Nat.le_trans hsz hs6
            clear hV1 hV2
            go_upto_region 16 with fail
            go_region_held3 (fun w' => w'.cell? ⟨wr.heap.size, 0, none⟩ = some (.string x.A) ∧ w'.cell? ⟨wr.heap.size, 1, none⟩ = some (.string x.SA) ∧ w'.cell? ⟨wr.heap.size, 2, none⟩ = some (.string x.B) ∧ w'.cell? ⟨wr.heap.size, 3, none⟩ = some (.string x.SB) ∧ w'.cell? ⟨wr.heap.size, 4, none⟩ = some (.int .i64 x.N) ∧ w'.cell? ⟨wr.heap.size, 5, none⟩ = some (.int .i64 x.D)) (first | exact ⟨f0, f1, f2, f3, f4, f5⟩ | exact HEX.out _ (by (repeat (first | exact hU0.out | exact HB5.out | exact HB6.out | refine below_drew ?_ | refine Below.alloc ?_ (by first | omega | (simp; done) | (simp; omega)) _)); done) | go_keep)
              (first
              | (refine stepBri (base := U'.heap.size) (.tmp 87) (.tmp 90) rfl rfl (by rfl) (by rfl) (World.ownsRow_nil _ _ _ _) (HP1.out.below (by (repeat (first | exact hU0.out | refine below_drew ?_ | refine Below.alloc ?_ (by first | omega | (simp; done) | (simp; omega)) _)); done)) HC1.out (N := m) (by rw [HN1.out]; omega) (by omega) (by first | omega | (simp; done) | (simp; omega)) ?_; intro A3 c3 w5 hap; have hB5 : Below U'.heap.size U' w5 := (by refine Below.grown ?_ hap.grown (by first | omega | (simp; done) | (simp; omega)) (fun g hg => by simp [Value.ownBlock] at hg); repeat (first | exact hU0.out | refine below_drew ?_ | refine Below.alloc ?_ (by first | omega | (simp; done) | (simp; omega)) _)); have HB5 := Lib.hid hB5; have HO5 := Lib.hid hap.own; (first | (have hq := (show Cel (World.alloc (World.drew U') (.cells #[.string x.A, .string x.SA, .string x.B, .string x.SB, .int .i64 x.N, .int .i64 x.D] 83)) U'.heap.size 83 #[.string x.A, .string x.SA, .string x.B, .string x.SB, .int .i64 x.N, .int .i64 x.D] from Cel.new U' _ _).kept hap.grown (by simp [Value.ownBlock]); have HLIT := Lib.hid (Cel.sl (s := 6) (m := 1) (cap := 1) hq rfl rfl (Nat.le_refl _) (by decide)); clear hq) | skip); obtain ⟨f0, f1, f2, f3, f4, f5⟩ := HEX.out _ hB5; have hs5 := hB5.size; clear hB5 hap)
              | (refine stepBri (base := U'.heap.size) (.tmp 91) (.tmp 93) rfl rfl (by rfl) (by rfl) (by first | exact HO5.out | exact own_alloc HO5.out) (by first | exact HLIT.out | exact Sl.new (s := 6) _ 83 1 1 #[.string x.A, .string x.SA, .string x.B, .string x.SB, .int .i64 x.N, .int .i64 x.D] rfl (Nat.le_refl _) (by decide)) (by simp [Value.oneCell']) (N := m + 1) (by simp; omega) (by omega) (by first | omega | (simp; done) | (simp; omega)) ?_; intro A4 c4 w6 hap; have hB6 : Below U'.heap.size U' w6 := (by refine Below.grown ?_ hap.grown (by first | omega | (simp; done) | (simp; omega)) (fun g hg => own_ge HO5.out hg); repeat (first | exact HB5.out | refine below_drew ?_ | refine Below.alloc ?_ (by first | omega | (simp; done) | (simp; omega)) _)); have HB6 := Lib.hid hB6; have HO6 := Lib.hid hap.own; obtain ⟨f0, f1, f2, f3, f4, f5⟩ := HEX.out _ hB6; have hs6' := hB6.size; clear hB6 hap)
              | (refine stepBri (base := U'.heap.size) (.tmp 94) (.tmp 97) rfl rfl (by rfl) (by rfl) (by first | exact HO6.out | exact own_alloc HO6.out) (HP2.out.below (by (repeat (first | exact HB6.out | refine below_drew ?_ | refine Below.alloc ?_ (by first | omega | (simp; done) | (simp; omega)) _)); done)) HC2.out (N := k + 1) (by rw [HN2.out]; omega) (by omega) (by first | omega | (simp; done) | (simp; omega)) ?_; intro A5 c5 w7 hap; have hB7 : Below U'.heap.size U' w7 := (by refine Below.grown ?_ hap.grown (by first | omega | (simp; done) | (simp; omega)) (fun g hg => own_ge HO6.out hg); repeat (first | exact HB6.out | refine below_drew ?_ | refine Below.alloc ?_ (by first | omega | (simp; done) | (simp; omega)) _)); have HB7V := Lib.hid (show Below V.heap.size V w7 from hB.out.trans ((HBU.out.trans (hB7.mono hs6)).mono hsz)); have HO7 := Lib.hid hap.own; obtain ⟨f0, f1, f2, f3, f4, f5⟩ := HEX.out _ hB7; have hs7 := hB7.size; clear hB7 hap))
            all_goals (
              go_wp2
              go_roundw
              case rel =>
                refine ⟨k + 1, nx.take m ++ ([x] ++ nx.drop m), by go_num, hlt, ?_, ?_, ?_⟩
                · rw [HST.out]
                  exact HT.out.step HXT.out.1 (HBR0.out) HXT.out.2 m
                · rw [brsV_cut]
                  have hq := own_base HO7.out hs6v
                  rw [List.nil_append, List.append_assoc] at hq
                  exact hq
                · exact HB7V.out
              case measure => simp [intOf]; omega)
    · have hkn : k = bs.length := by omega
      have HT2 := Lib.hid (show Tn bs nx by have := HT.out; rwa [List.take_of_length_le (by omega)] at this)
      have HSN := Lib.hid (show Sl wr 6 (.slice A1 k c1) (brsV nx) from Sl.of_own HO.out)
      have HB2 := Lib.hid (below_then HB1.out hB.out)
      have HSW := Lib.hid (HS.out.below hB.out)
      have HLW := Lib.hid (HLD.out.below hB.out)
      have hsame := books_same HT2.out HL6.out HLE.out
      obtain ⟨lb, lo, lc, rfl, hlc4, hat⟩ := HLW.out.fl4
      have HAT := Lib.hid hat
      rcases hF : newF fl bs with ⟨E1, s1⟩
      rcases hG : newF fl nx with ⟨E2, s2⟩
      rw [hF, hG] at hsame
      simp only at hsame
      have HN1 := Lib.hid (newbook_any fl bs (.slice (some ⟨lb, lo, none⟩) 4 lc) (.slice BA bs.length bc) wr HLW.out HSW.out E1 s1 hF)
      have HN2 := Lib.hid (fun w' (hb : Below wr.heap.size wr w') => newbook_any fl nx (.slice (some ⟨lb, lo, none⟩) 4 lc) (.slice A1 k c1) w' (HLW.out.below hb) (HSN.out.below hb) E2 s2 hG)
      clear hown hF hG hat hkn
      rcases hsame with ⟨rfl, rfl, hg1, hg2, hgr, hfa⟩ | ⟨rfl, rfl⟩
      · have HGD1 := Lib.hid hg1
        have HGD2 := Lib.hid hg2
        have HGR := Lib.hid hgr
        have HFA := Lib.hid hfa
        clear hg1 hg2 hgr hfa
        go_wp2_with fail
        go_fit HN1.out
        rintro e w2 ⟨r, rfl, hb2, _, hbk⟩
        obtain ⟨Bk1, bm1, lv1, gv1, fv1, rfl, hbo⟩ := hbk (by trivial)
        have HBV1 := Lib.hid hbo.view
        have HB3 := Lib.hid hb2
        clear hbk hbo hb2
        go_wp2_with fail
        go_fit (HN2.out w2 HB3.out)
        rintro e w3 ⟨r, rfl, hb3, _, hbk⟩
        obtain ⟨Bk2, bm2, lv2, gv2, fv2, rfl, hbo⟩ := hbk (by trivial)
        have HBV1' := Lib.hid (HBV1.out.below hb3)
        have HBV2 := Lib.hid hbo.view
        have HB4 := Lib.hid (below_then HB3.out hb3)
        clear hbk hbo hb3 HN1 HN2
        obtain ⟨W3, hW3⟩ : ∃ W3 : World, W3 = w3 := ⟨_, rfl⟩
        subst hW3
        have HZ3 := Lib.hid (fun (w' : World) (hb : Below W3.heap.size W3 w') => below_then HB2.out (below_then HB4.out hb))
        have HCL : Hid (∀ i, i < 4 → ∀ w', Below W3.heap.size W3 w' → w'.cell? ⟨lb, lo + i * 2, none⟩ = some (.string (nmF i))) := fun i hi w' hb => below_cell hb (below_cell HB4.out (HAT.out i hi))
        go_wp2_with fail
        go_loopw [20] (fun ti wr => ∃ i : Nat, ti = .int .i64 i ∧ i ≤ 4 ∧ Hid (Below W3.heap.size W3 wr)) (fun ti _ => 4 - (intOf ti).toNat)
        case atStart => exact ⟨0, rfl, by omega, Below.refl _ _⟩
        case round =>
          obtain ⟨i, rfl, hi, hQ⟩ := hrel
          have hqs := hQ.out.size
          by_cases hlt : i < 4
          · have KG1 : Hid (∀ w', Below wr.heap.size wr w' → Calls Tryd.prog 52 #[.pointer (some ⟨Bk1, 0, none⟩), .string (nmF i)] w' fun e w'' => ∃ v, e = .returned v ∧ Sl w'' 1 v (namesV (groupF s1 (nmF i))) ∧ Below w'.heap.size w' w'') := fun w' hb => group_any Bk1 bm1 lv1 gv1 fv1 s1 (nmF i) w' (HBV1'.out.below (hQ.out.trans (hb.mono hqs))) HGD1.out
            have KG2 : Hid (∀ w', Below wr.heap.size wr w' → Calls Tryd.prog 52 #[.pointer (some ⟨Bk2, 0, none⟩), .string (nmF i)] w' fun e w'' => ∃ v, e = .returned v ∧ Sl w'' 1 v (namesV (groupF s2 (nmF i))) ∧ Below w'.heap.size w' w'') := fun w' hb => group_any Bk2 bm2 lv2 gv2 fv2 s2 (nmF i) w' (HBV2.out.below (hQ.out.trans (hb.mono hqs))) HGD2.out
            rw [HGR.out i hlt] at KG1
            generalize groupF s2 (nmF i) = GN at *
            have HCI : Hid (∀ w', Below wr.heap.size wr w' → w'.cell? ⟨lb, lo + i * 2, none⟩ = some (.string (nmF i))) := fun w' hb => HCL.out i hlt w' (hQ.out.trans (hb.mono hqs))
            have i1 : (0 : Int) ≤ (i : Int) := by omega
            have i2 : (i : Int) < 4 := by omega
            have c0 := HCI.out wr (Below.refl _ _)
            go_upto_region 24 with fail
            go_cut [153] (fun t wx => ∃ (Wx : World), Wx = wx ∧ t = .bool false ∧ Below wr.heap.size wr wx)
            case first =>
              have hw0 := Lib.hid (Below.refl wr.heap.size wr)
              go_region_held3 (fun w' => w'.cell? ⟨lb, lo + i * 2, none⟩ = some (.string (nmF i))) (first | exact HCI.out _ (by (repeat (first | exact hw0.out | exact HEQ.out | exact HG1.out | exact HG2.out | refine below_drew ?_)); done) | go_keep)
                (first
                | (go_at_call_of 52 (Value.pointer (some ⟨Bk1, 0, none⟩)); refine (KG1.out _ (by (repeat (first | exact hw0.out | exact HG1.out | exact HG2.out | refine below_drew ?_)); done)).mono ?_; rintro e w5 ⟨ga, rfl, hs, hb⟩; have HSA := Lib.hid hs; clear hs; have hB := (show Below wr.heap.size wr w5 from Below.trans (by (repeat (first | exact hw0.out | exact HG1.out | exact HG2.out | refine below_drew ?_)); done) (hb.mono (by first | exact Nat.le_refl _ | exact HG1.out.size | exact HG2.out.size))); have HG1 := Lib.hid hB; (first | (have HAF := Lib.hid (show Below w6.heap.size w6 w5 from hb)) | (have HAF := Lib.hid (show Below w6.heap.size w6 w5 from below_undrew (show Below w6.heap.size w6.drew w5 from hb))) | skip); clear hb hB)
                | (go_at_call_of 52 (Value.pointer (some ⟨Bk2, 0, none⟩)); refine (KG2.out _ (by (repeat (first | exact hw0.out | exact HG1.out | exact HG2.out | refine below_drew ?_)); done)).mono ?_; rintro e w6 ⟨gb, rfl, hs, hb⟩; have HSB := Lib.hid hs; clear hs; have hB := (show Below wr.heap.size wr w6 from Below.trans (by (repeat (first | exact hw0.out | exact HG1.out | exact HG2.out | refine below_drew ?_)); done) (hb.mono (by first | exact Nat.le_refl _ | exact HG1.out.size | exact HG2.out.size))); have HG2 := Lib.hid hB; (first | (have HBF := Lib.hid (show Below w5.heap.size w5 w6 from hb)) | (have HBF := Lib.hid (show Below w5.heap.size w5 w6 from below_undrew (show Below w5.heap.size w5.drew w6 from hb))) | skip); clear hb hB)
                | (go_at_call 51; refine (eqTexts_same _ _ GN _ (by first | exact HSA.out | exact HSA.out.below HBF.out) (by first | exact HSB.out | exact HSB.out.below HAF.out)).mono ?_; rintro e w7 ⟨rfl, hb⟩; first | (have HEQ := Lib.hid (show Below wr.heap.size wr w7 from HG2.out.trans (Below.mono (show Below w6.heap.size w6 w7 from hb) HG2.out.size))) | (have HEQ := Lib.hid (show Below wr.heap.size wr w7 from HG1.out.trans (Below.mono (show Below w5.heap.size w5 w7 from hb) HG1.out.size)))))
              all_goals (
                go_wp2
                go_meet
                exact ⟨_, rfl, rfl, by repeat (first | exact HEQ.out | refine below_drew ?_)⟩)
            case rest =>
              obtain ⟨Y, rfl, rfl, hY⟩ := hcut
              have HYQ := Lib.hid (hQ.out.trans (hY.mono hqs))
              clear hY KG1 KG2 HCI c0
              go_wp2_with fail
              go_loopw [21] (fun tj wr => ∃ j : Nat, tj = .int .i64 j ∧ j ≤ 4 ∧ Hid (Below W3.heap.size W3 wr)) (fun tj _ => 4 - (intOf tj).toNat)
              case atStart => exact ⟨0, rfl, by omega, HYQ.out⟩
              case round =>
                obtain ⟨j, rfl, hj, hQ⟩ := hrel
                have hqs := hQ.out.size
                by_cases hlt2 : j < 4
                · have KF1 : Hid (∀ w', Below wr.heap.size wr w' → Calls Tryd.prog 41 #[.pointer (some ⟨Bk1, 0, none⟩), .string (nmF i), .string (nmF j)] w' fun e w'' => e = .returned (rrV (factorF s1 (nmF i) (nmF j))) ∧ Below w'.heap.size w' w'') := fun w' hb => factor_any Bk1 bm1 lv1 gv1 fv1 s1 (nmF i) (nmF j) w' (HBV1'.out.below (hQ.out.trans (hb.mono hqs))) HGD1.out
                  have KF2 : Hid (∀ w', Below wr.heap.size wr w' → Calls Tryd.prog 41 #[.pointer (some ⟨Bk2, 0, none⟩), .string (nmF i), .string (nmF j)] w' fun e w'' => e = .returned (rrV (factorF s2 (nmF i) (nmF j))) ∧ Below w'.heap.size w' w'') := fun w' hb => factor_any Bk2 bm2 lv2 gv2 fv2 s2 (nmF i) (nmF j) w' (HBV2.out.below (hQ.out.trans (hb.mono hqs))) HGD2.out
                  rw [HFA.out i j hlt hlt2] at KF1
                  generalize factorF s2 (nmF i) (nmF j) = rr at *
                  obtain ⟨pN, pD, pE⟩ := rr
                  have HCE : Hid (∀ w', Below wr.heap.size wr w' → w'.cell? ⟨lb, lo + i * 2, none⟩ = some (.string (nmF i)) ∧ w'.cell? ⟨lb, lo + j * 2, none⟩ = some (.string (nmF j))) := fun w' hb => ⟨HCL.out i hlt w' (hQ.out.trans (hb.mono hqs)), HCL.out j hlt2 w' (hQ.out.trans (hb.mono hqs))⟩
                  have j1 : (0 : Int) ≤ (j : Int) := by omega
                  have j2 : (j : Int) < 4 := by omega
                  obtain ⟨c0, c1'⟩ := HCE.out wr (Below.refl _ _)
                  go_upto_region 29 with fail
                  go_cut [22, 23] (fun tp te wx => ∃ (Wx : World) (B : Nat), Wx = wx ∧ tp = .pointer (some ⟨B, 0, none⟩) ∧ te = .int .i64 pE ∧ Cel wx B 23 #[.int .i64 pN, .int .i64 pD] ∧ wr.heap.size ≤ B ∧ Below wr.heap.size wr wx)
                  case first =>
                    have hw0 := Lib.hid (Below.refl wr.heap.size wr)
                    go_region_held3 (fun w' => w'.cell? ⟨lb, lo + i * 2, none⟩ = some (.string (nmF i)) ∧ w'.cell? ⟨lb, lo + j * 2, none⟩ = some (.string (nmF j))) (first | exact HCE.out _ (by repeat (first | exact HBW.out | exact hw0.out | refine below_drew ?_ | refine Below.setCell ?_ (by first | omega | (simp; done) | (simp; omega)) _ | refine Below.alloc ?_ (by first | omega | (simp; done) | (simp; omega)) _)) | go_keep)
                      (first
                      | (go_at_call 41; refine (KF1.out _ (by repeat (first | exact hw0.out | refine below_drew ?_ | refine Below.alloc ?_ (by first | omega | (simp; done) | (simp; omega)) _))).mono ?_; rintro e w4 ⟨rfl, hb4⟩; have hB2 := (show Below wr.heap.size wr w4 from Below.trans (by repeat (first | exact hw0.out | refine below_drew ?_ | refine Below.alloc ?_ (by first | omega | (simp; done) | (simp; omega)) _)) (hb4.mono (by simp))); have hB2z := hB2.size; have HBW := Lib.hid hB2; (first | (have hy := (show Cel ((wr.alloc (.cells #[.int .i64 0, .int .i64 0] 23)).drew) wr.heap.size 23 #[.int .i64 0, .int .i64 0] from Cel.new wr _ _).below (by simp) hb4; have z0 := hy.cell 0 (.int .i64 0) rfl; have z1 := hy.cell 1 (.int .i64 0) rfl; have y0 := hy.frozen 0; have y1 := hy.frozen 1; have HYY := Lib.hid hy; clear hy) | skip); clear hb4 hB2))
                    all_goals (
                      go_wp2
                      go_meet
                      first
                      | exact ⟨_, w4.heap.size, rfl, rfl, rfl, Cel.new w4 _ _, by have := HBW.out.size; omega, HBW.out.alloc HBW.out.size _⟩
                      | exact ⟨_, wr.heap.size, rfl, rfl, rfl, HYY.out.set2 _ _, Nat.le_refl _, (HBW.out.setCell (p := ⟨wr.heap.size, 0, none⟩) (Nat.le_refl _) _).setCell (p := ⟨wr.heap.size, 1, none⟩) (Nat.le_refl _) _⟩)
                  case rest =>
                    obtain ⟨U, B1, rfl, rfl, rfl, hC1, hB1, hU⟩ := hcut
                    have HC1 := Lib.hid hC1
                    have HU := Lib.hid hU
                    have hus := hU.size
                    clear c0 c1' hC1 hB1 hU
                    have KFU : Hid (∀ w', Below U.heap.size U w' → Calls Tryd.prog 41 #[.pointer (some ⟨Bk2, 0, none⟩), .string (nmF i), .string (nmF j)] w' fun e w'' => e = .returned (rrV ⟨pN, pD, pE⟩) ∧ Below w'.heap.size w' w'') := fun w' hb => KF2.out w' (HU.out.trans (hb.mono hus))
                    have HCE2 : Hid (∀ w', Below U.heap.size U w' → w'.cell? ⟨lb, lo + i * 2, none⟩ = some (.string (nmF i)) ∧ w'.cell? ⟨lb, lo + j * 2, none⟩ = some (.string (nmF j))) := fun w' hb => HCE.out w' (HU.out.trans (hb.mono hus))
                    obtain ⟨c0, c1'⟩ := HCE2.out U (Below.refl _ _)
                    go_upto_region 30 with fail
                    go_cut [24, 25] (fun tp te wx => ∃ (Wx : World) (B : Nat), Wx = wx ∧ tp = .pointer (some ⟨B, 0, none⟩) ∧ te = .int .i64 pE ∧ Cel wx B 23 #[.int .i64 pN, .int .i64 pD] ∧ U.heap.size ≤ B ∧ Below U.heap.size U wx)
                    case first =>
                      have hw0 := Lib.hid (Below.refl U.heap.size U)
                      go_region_held3 (fun w' => w'.cell? ⟨lb, lo + i * 2, none⟩ = some (.string (nmF i)) ∧ w'.cell? ⟨lb, lo + j * 2, none⟩ = some (.string (nmF j))) (first | exact HCE2.out _ (by repeat (first | exact HBW.out | exact hw0.out | refine below_drew ?_ | refine Below.setCell ?_ (by first | omega | (simp; done) | (simp; omega)) _ | refine Below.alloc ?_ (by first | omega | (simp; done) | (simp; omega)) _)) | go_keep)
                        (first
                        | (go_at_call 41; refine (KFU.out _ (by repeat (first | exact hw0.out | refine below_drew ?_ | refine Below.alloc ?_ (by first | omega | (simp; done) | (simp; omega)) _))).mono ?_; rintro e w4 ⟨rfl, hb4⟩; have hB2 := (show Below U.heap.size U w4 from Below.trans (by repeat (first | exact hw0.out | refine below_drew ?_ | refine Below.alloc ?_ (by first | omega | (simp; done) | (simp; omega)) _)) (hb4.mono (by simp))); have hB2z := hB2.size; have HBW := Lib.hid hB2; (first | (have hy := (show Cel ((U.alloc (.cells #[.int .i64 0, .int .i64 0] 23)).drew) U.heap.size 23 #[.int .i64 0, .int .i64 0] from Cel.new U _ _).below (by simp) hb4; have z0 := hy.cell 0 (.int .i64 0) rfl; have z1 := hy.cell 1 (.int .i64 0) rfl; have y0 := hy.frozen 0; have y1 := hy.frozen 1; have HYY := Lib.hid hy; clear hy) | skip); clear hb4 hB2))
                      all_goals (
                        go_wp2
                        go_meet
                        first
                        | exact ⟨_, w4.heap.size, rfl, rfl, rfl, Cel.new w4 _ _, by have := HBW.out.size; omega, HBW.out.alloc HBW.out.size _⟩
                        | exact ⟨_, U.heap.size, rfl, rfl, rfl, HYY.out.set2 _ _, Nat.le_refl _, (HBW.out.setCell (p := ⟨U.heap.size, 0, none⟩) (Nat.le_refl _) _).setCell (p := ⟨U.heap.size, 1, none⟩) (Nat.le_refl _) _⟩)
                    case rest =>
                      obtain ⟨X, B2, rfl, rfl, rfl, hC2, hB2', hX⟩ := hcut
                      have HC1' := Lib.hid (HC1.out.below HC1.out.lt hX)
                      have HXQ := Lib.hid (hQ.out.trans ((HU.out.trans (hX.mono hus)).mono hqs))
                      have p0 := HC1'.out.cell 0 _ rfl
                      have p1 := HC1'.out.cell 1 _ rfl
                      have p2 := hC2.cell 0 _ rfl
                      have p3 := hC2.cell 1 _ rfl
                      clear hC2 hB2' hX c0 c1'
                      go_wp2
                      go_roundw
                      case rel => exact ⟨j + 1, by go_num, by omega, HXQ⟩
                      case measure => simp [intOf]; omega
                · obtain ⟨X, hX⟩ : ∃ X : World, X = wr := ⟨_, rfl⟩
                  have HX' := Lib.hid hX
                  clear hX
                  go_wp2
                  go_roundw
                  case rel => exact ⟨i + 1, by go_num, by omega, hQ⟩
                  case measure => simp [intOf]; omega
          · go_wp2_with fail
            go_fit (C9.out _ (HZ3.out _ hQ.out))
            rintro e w4 ⟨rfl, hb4⟩
            go_wp2
            go_ret
            exact ⟨rfl, below_then (HZ3.out _ hQ.out) hb4⟩
      · go_wp2_with fail
        go_fit HN1.out
        rintro e w2 ⟨r, rfl, hb2, hno, _⟩
        obtain rfl := hno (by decide)
        have HB3 := Lib.hid hb2
        clear hno hb2
        go_wp2_with fail
        go_fit (HN2.out w2 HB3.out)
        rintro e w3 ⟨r, rfl, hb3, hno, _⟩
        obtain rfl := hno (by decide)
        have HB4 := Lib.hid (below_then HB2.out (below_then HB3.out hb3))
        clear hno hb3 HN1 HN2
        go_wp2_with fail
        go_loopw [20] (fun ti wr => ti = .int .i64 0 ∧ Hid (Below w.heap.size w wr)) (fun ti _ => 0)
        case atStart => exact ⟨rfl, HB4.out⟩
        case round =>
          obtain ⟨rfl, hQ⟩ := hrel
          go_wp2_with fail
          go_fit (C9.out _ hQ.out)
          rintro e w4 ⟨rfl, hb4⟩
          go_wp2
          go_ret
          exact ⟨rfl, below_then hQ.out hb4⟩
end Go.Proofs.YtmibpncmebhbjaaDoor
