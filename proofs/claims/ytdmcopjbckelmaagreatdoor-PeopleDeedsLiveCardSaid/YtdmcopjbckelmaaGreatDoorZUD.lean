/- Walks of the reference: FromDeeds. Conditions: those stated. -/
import Derived.Test.YtdmcopjbckelmaaGreatDoorZUB
import Derived.Test.YtdmcopjbckelmaaGreatDoorZIB
namespace Go.Proofs.YtdmcopjbckelmaaGreatDoor
open Go Go.RowKit Go.Shelf
attribute [local go_sem] Oper.semAt_some
set_option maxRecDepth 100000 in
set_option maxHeartbeats 8000000 in
theorem rfromDeeds_bad (r : Int) (hr : r = 3 ∨ r = 102) (v : Value) (ds : List De) (w : World) (h : DeedsV w v ds) (hs : ShortDs ds) (hc : checkDF ds = r) :
    Calls Tryz.prog 44 #[v] w (MergeP ([], [], r) w) := by
  have hb0 := below_alloc' w (.cells #[.slice none 0 0, .slice none 0 0] 25)
  have y1 := Cel.new w 25 #[.slice none 0 0, .slice none 0 0]
  have HK := Lib.hid (rcheckDeeds_any v ds _ (h.below hb0) hs)
  rw [hc] at HK
  obtain ⟨A, c, rfl, _⟩ := h.shape
  clear h hs hc
  rcases hr with rfl | rfl
  all_goals
    go_enter Tryz.func44, Tryz.ntmps44
    go_wp2_with fail
    refine HK.out.mono ?_
    rintro e w1 ⟨rfl, hb1⟩
    have HB := Lib.hid (hb0.trans (hb1.mono hb0.size))
    have HR := Lib.hid (y1.below y1.lt hb1)
    clear hb0 hb1 y1 HK
    have q0 := HR.out.frozen 0
    have q1 := HR.out.frozen 1
    have q2 := HR.out.cell 0 _ rfl
    have q3 := HR.out.cell 1 _ rfl
    go_wp2
    have kk := HR.out.set2 (.slice none 0 0) (.slice none 0 0)
    have k0 := kk.cell 0 _ rfl
    have k1' := kk.cell 1 _ rfl
    have HEn := Lib.hid ((HB.out.setCell (p := ⟨w.heap.size, 0, none⟩) (by simp) (.slice none 0 0)).setCell (p := ⟨w.heap.size, 1, none⟩) (by simp) (.slice none 0 0))
    clear kk
    first
    | exact bodyPost_ret (v := .tuple #[.agg #[.slice none 0 0, .slice none 0 0], .int .i64 3]) (by simp [results, Tryz.results44, go_sem, k0, k1']) rfl ⟨HEn.out, _, _, _, _, _, _, rfl, net_nil _⟩
    | exact bodyPost_ret (v := .tuple #[.agg #[.slice none 0 0, .slice none 0 0], .int .i64 102]) (by simp [results, Tryz.results44, go_sem, k0, k1']) rfl ⟨HEn.out, _, _, _, _, _, _, rfl, net_nil _⟩
theorem facts_lenY {ds : List De} {s : ByteArray} {k m : Nat} (h : ds.length ≤ 64) (hk : k ≤ 24) (hm : m ≤ 2001) : (factsK ds k ++ (yrs ds s m).map (actF s)).length ≤ 4000 := by
  have h1 := factsK_length h k
  have h2 := yrs_length ds s m
  rw [List.length_append, List.length_map]
  omega
theorem deed_years {ds : List De} (h : checkDF ds = 0) : ∀ d ∈ ds, -1000 ≤ d.year ∧ d.year ≤ 1000 := by
  intro d hd
  obtain ⟨i, hi, e⟩ := List.getElem_of_mem hd
  have hk := (checkDF_ok h).2 i hi
  unfold okD at hk
  rw [show ds.getD i noDe = d by rw [List.getD_eq_getElem?_getD, List.getElem?_eq_getElem hi, e]; rfl, Bool.and_eq_true] at hk
  have h1 := hk.1
  unfold deedB headB at h1
  simp only [Bool.and_eq_true, decide_eq_true_eq] at h1
  exact ⟨h1.1.2.1, h1.1.2.2.1⟩
set_option maxRecDepth 100000 in
set_option maxHeartbeats 8000000 in
theorem rfromDeeds_good (v : Value) (ds : List De) (w : World) (h : DeedsV w v ds) (hs : ShortDs ds) (hc : checkDF ds = 0) (r : List ByteArray × List Fa × Int) (h24 : 24 < (allF ds).length → r = ([], [], 3)) (h48 : ¬ 24 < (allF ds).length → 48 < (factsD ds).length → r = ([], [], 3)) (hok : ¬ 24 < (allF ds).length → ¬ 48 < (factsD ds).length → r = (allF ds, factsD ds, 0)) :
    Calls Tryz.prog 44 #[v] w (MergeP r w) := by
  have hb0 := below_alloc' w (.cells #[.slice none 0 0, .slice none 0 0] 25)
  have y1 := Cel.new w 25 #[.slice none 0 0, .slice none 0 0]
  have HK := Lib.hid (rcheckDeeds_any v ds _ (h.below hb0) hs)
  rw [hc] at HK
  have h64 := (checkDF_few hc).1
  have HYr := Lib.hid (deed_years hc)
  have HAl := Lib.hid (fun w' (hw : Below w.heap.size w w') => rpeople_any v ds w' (h.below hw) (checkDF_few hc))
  have h832 := allF_length (checkDF_few hc)
  obtain ⟨A, c, rfl, h⟩ := h.shape
  obtain ⟨_, a1, a2⟩ := h.many
  have HD := Lib.hid (fun q => h.deed q)
  have H24 := Lib.hid h24
  have H48 := Lib.hid h48
  have HOk := Lib.hid hok
  clear h hs hc h24 h48 hok
  go_enter Tryz.func44, Tryz.ntmps44
  go_wp2_with fail
  refine HK.out.mono ?_
  rintro e w1 ⟨rfl, hb1⟩
  have HB := Lib.hid (hb0.trans (hb1.mono hb0.size))
  have HR := Lib.hid (y1.below y1.lt hb1)
  clear hb0 hb1 y1 HK
  go_wp2_with fail
  refine (HAl.out _ HB.out).mono ?_
  rintro e w2 ⟨hb2, A2, c2, rfl, hs2⟩
  have HP2 := Lib.hid hs2
  have HB2 := Lib.hid (HB.out.trans (hb2.mono HB.out.size))
  replace HR := Lib.hid (HR.out.below HR.out.lt hb2)
  have l0 := (Cel.new w2 25 #[.slice none 0 0, .slice none 0 0]).cell 0 _ rfl
  have l1 := (Cel.new w2 25 #[.slice none 0 0, .slice none 0 0]).cell 1 _ rfl
  have l2 := (Cel.new w2 25 #[.slice none 0 0, .slice none 0 0]).frozen 0
  have l3 := (Cel.new w2 25 #[.slice none 0 0, .slice none 0 0]).frozen 1
  clear hb2 hs2 HB HAl
  go_upto_region 5 with fail
  clear l0 l1 l2 l3
  have HO0 := Lib.hid (Cel.new w2 25 #[.slice A2 (allF ds).length c2, .slice none 0 0])
  have hb3 := below_alloc' w2 (.cells #[.slice A2 (allF ds).length c2, .slice none 0 0] 25)
  have hlt3 : w2.heap.size < (w2.alloc (.cells #[.slice A2 (allF ds).length c2, .slice none 0 0] 25)).heap.size := by simp
  generalize w2.alloc (.cells #[.slice A2 (allF ds).length c2, .slice none 0 0] 25) = w3 at *
  obtain ⟨Bo, hBo⟩ : ∃ Bo, w2.heap.size = Bo := ⟨_, rfl⟩
  have HB3 := Lib.hid (HB2.out.trans (hb3.mono HB2.out.size))
  have HBo := Lib.hid (show w.heap.size + 1 ≤ Bo by have := HR.out.lt; omega)
  replace HR := Lib.hid (HR.out.below HR.out.lt hb3)
  have HD0 := Lib.hid hb3
  rw [hBo] at HO0 hlt3 ⊢
  have HBe := Lib.hid hBo
  clear hb3 hBo HB2
  have o0 := HO0.out.cell 0 _ rfl
  by_cases h24 : 24 < (allF ds).length
  · have n1 : (24 : Int) < ((allF ds).length : Int) := by omega
    have hr := Lib.hid (H24.out h24)
    have q0 := HR.out.frozen 0
    have q1 := HR.out.frozen 1
    have q2 := HR.out.cell 0 _ rfl
    have q3 := HR.out.cell 1 _ rfl
    go_wp2
    have kk := HR.out.set2 (.slice none 0 0) (.slice none 0 0)
    have k0 := kk.cell 0 _ rfl
    have k1' := kk.cell 1 _ rfl
    have HEn := Lib.hid ((HB3.out.setCell (p := ⟨w.heap.size, 0, none⟩) (by simp) (.slice none 0 0)).setCell (p := ⟨w.heap.size, 1, none⟩) (by simp) (.slice none 0 0))
    clear kk
    exact bodyPost_ret (v := .tuple #[.agg #[.slice none 0 0, .slice none 0 0], .int .i64 3]) (by simp [results, Tryz.results44, go_sem, k0, k1']) rfl ⟨HEn.out, _, _, _, _, _, _, by rw [hr.out], by rw [hr.out]; exact net_nil _⟩
  · have n1 : ¬ (24 : Int) < ((allF ds).length : Int) := by omega
    have HH := Lib.hid h24
    obtain ⟨_, _, ea, ha1, ha2, hcell⟩ := names_at2 HP2.out
    cases ea
    have HCp := Lib.hid hcell
    clear hcell
    go_wp2
    clear o0 n1
    go_loopw [6] (fun ti wr => ∃ (k : Nat) (vb : Value), ti = .int .i64 k ∧ k ≤ (allF ds).length ∧ Hid (Cel wr Bo 25 #[.slice A2 (allF ds).length c2, vb]) ∧ Hid (wr.ownsRow (Bo + 1) 76 4 vb (factsK ds k).length (fasV (factsK ds k))) ∧ Hid (Cel wr w.heap.size 25 #[.slice none 0 0, .slice none 0 0]) ∧ Hid (Below w2.heap.size w2 wr) ∧ Hid (Below w.heap.size w wr)) (fun ti _ => (allF ds).length - (intOf ti).toNat)
    case atStart => exact ⟨0, _, rfl, by omega, HO0.out, World.ownsRow_nil _ _ _ _, HR.out, HD0.out, HB3.out⟩
    case round =>
      clear HO0 HR HD0 HB3 hlt3
      obtain ⟨k, vb, rfl, hk, HO, HW, HR, HP, HB⟩ := hrel
      obtain ⟨Ab, cb, rfl, _⟩ := own_shape HW.out
      obtain ⟨wo, hwo⟩ : ∃ wo, wo = wr := ⟨_, rfl⟩
      rw [← hwo] at HO HW HR HP HB ⊢
      clear hwo
      have o0 := HO.out.cell 0 _ rfl
      by_cases hlt : k < (allF ds).length
      · have hki : (k : Int) < ((allF ds).length : Int) := by omega
        have hk0 : (0 : Int) ≤ (k : Int) := by omega
        obtain ⟨b5, o5, rfl, _, hcp⟩ := HCp.out (by omega)
        obtain ⟨s, hget⟩ : ∃ s, (allF ds)[k]? = some s := ⟨_, List.getElem?_eq_getElem hlt⟩
        have HCs := Lib.hid (hcp k s hget)
        have HFe := Lib.hid (show factsK ds (k + 1) = factsK ds k ++ (yrs ds s 2001).map (actF s) by rw [factsK_succ hget, yrs_all HYr.out]; rfl)
        have HFl := Lib.hid (fun m (hm : m ≤ 2001) => facts_lenY (s := s) h64 (show k ≤ 24 by omega) hm)
        clear hcp hget
        have HFz := Lib.hid (show factsK ds k = factsK ds k ++ (yrs ds s 0).map (actF s) by rw [yrs_zero]; simp)
        have HY0 := Lib.hid (show (-1000 : Int) = ((0 : Nat) : Int) - 1000 by omega)
        go_wp2
        clear o0
        go_loopw [7] (fun ti wi => ∃ (m : Nat) (Y : Int) (vb : Value), ti = .int .i64 Y ∧ Hid (Y = (m : Int) - 1000) ∧ -1000 ≤ Y ∧ Y ≤ 1001 ∧ Hid (Cel wi Bo 25 #[.slice (some ⟨b5, o5, none⟩) (allF ds).length c2, vb]) ∧ Hid (wi.ownsRow (Bo + 1) 76 4 vb (factsK ds k ++ (yrs ds s m).map (actF s)).length (fasV (factsK ds k ++ (yrs ds s m).map (actF s)))) ∧ Hid (Cel wi w.heap.size 25 #[.slice none 0 0, .slice none 0 0]) ∧ Hid (Below w2.heap.size w2 wi) ∧ Hid (Below w.heap.size w wi)) (fun ti _ => (1001 - intOf ti).toNat)
        case atStart => exact ⟨0, -1000, _, rfl, HY0.out, by omega, by omega, HO.out, by rw [← HFz.out]; exact HW.out, HR.out, HP.out, HB.out⟩
        case round =>
          clear HO HW HR HP HB HFz HY0
          obtain ⟨m, Y, vb, rfl, HYm, hY1, hY2, HO, HW, HR, HP, HB⟩ := hrel
          obtain ⟨Ab, cb, rfl, _⟩ := own_shape HW.out
          obtain ⟨wi, hwi⟩ : ∃ wi, wi = wr := ⟨_, rfl⟩
          rw [← hwi] at HO HW HR HP HB ⊢
          clear hwi
          by_cases hlm : Y ≤ 1000
          · have HYs := Lib.hid (show Y + 1 = ((m + 1 : Nat) : Int) - 1000 by have := HYm.out; omega)
            have hwY : IntKind.i64.wrap (Y + 1) = Y + 1 := IntWalk.i64_in _ (by omega)
            have HTm := Lib.hid (show factsK ds k ++ (yrs ds s (m + 1)).map (actF s) = (factsK ds k ++ (yrs ds s m).map (actF s)) ++ (if yB ds s Y then [actF s Y] else []) by
              rw [yrs_succ, ← HYm.out, List.map_append, ← List.append_assoc]
              cases yB ds s Y <;> rfl)
            have HLm := Lib.hid (HFl.out m (by have := HYm.out; omega))
            have HI0 := Lib.hid (Below.refl wi.heap.size wi)
            have HB00 := Lib.hid (show false = yB (ds.take 0) s Y from rfl)
            go_wp2
            go_loopw [8, 9] (fun t8 ti wr => ∃ (j : Nat) (q : Bool), ti = .int .i64 j ∧ t8 = .bool q ∧ Hid (q = yB (ds.take j) s Y) ∧ j ≤ ds.length ∧ Hid (Below wi.heap.size wi wr)) (fun _ ti _ => ds.length - (intOf ti).toNat)
            case atStart => exact ⟨0, false, rfl, rfl, HB00.out, by omega, HI0.out⟩
            case round =>
              clear HI0 HB00
              obtain ⟨j, q, rfl, rfl, HQ, hj, HI⟩ := hrel
              by_cases hlj : j < ds.length
              · have hji : (j : Int) < (ds.length : Int) := by omega
                have hj0 : (0 : Int) ≤ (j : Int) := by omega
                obtain ⟨b0, o0, rfl, hb, hce⟩ := HD.out (by omega)
                have hget : ds[j]? = some ds[j] := List.getElem?_eq_getElem hlj
                obtain ⟨g0, g1, g2, g3, Aw, nw, cw, g4, hsw⟩ := hce j _ hget
                have hbj := HB.out.trans (HI.out.mono HB.out.size)
                replace g0 := below_cell hbj g0
                replace g1 := below_cell hbj g1
                replace g2 := below_cell hbj g2
                replace g3 := below_cell hbj g3
                replace g4 := below_cell hbj g4
                have HWt := Lib.hid (fun w' (hw : Below wr.heap.size wr w') => (hsw.below hbj).below hw)
                have HT := Lib.hid (yB_take hget s Y)
                have x0 := (HO.out.below HO.out.lt HI.out).cell 0 _ rfl
                have x1 := below_cell (HP.out.trans (HI.out.mono HP.out.size)) HCs.out
                clear hce hget hbj hsw
                generalize ds[j] = d at *
                obtain ⟨nm, yr, se, sl, wit⟩ := d
                simp only at g0 g1 g2 g3 g4 HWt HT
                cases q with
                | true =>
                  have HQ2 := Lib.hid (show true = yB (ds.take (j + 1)) s Y by rw [HT.out, ← HQ.out]; rfl)
                  clear HT HQ
                  go_upto_region 17 with fail
                  refine wp_region_held_drew (S := fun w' => Below wr.heap.size wr w') (by kernel_rfl) (below_drew (Below.refl _ _)) (fun hHeld => ?_)
                  refine wpAnyH_takeD (i := 0) (v := ?_) 41 rfl (by kernel_rfl) (by kernel_rfl) (by kernel_rfl) (fun _ _ _ h => h) (Or.inl ⟨by rfl, ?_⟩) (by assumption) rfl ?_
                  rotate_left
                  · intro w' hSw
                    have g0 := below_cell hSw g0; have g1 := below_cell hSw g1; have g2 := below_cell hSw g2; have g3 := below_cell hSw g3; have g4 := below_cell hSw g4; have x0 := below_cell hSw x0; have x1 := below_cell hSw x1
                    go_simp <;> with_reducible rfl
                  simp only [List.setIfInBounds_toArray, List.set_cons_succ, List.set_cons_zero]
                  refine wpAnyH_takeD (i := 1) (v := ?_) 42 rfl (by kernel_rfl) (by kernel_rfl) (by kernel_rfl) (fun _ _ _ h => h) (Or.inl ⟨by rfl, ?_⟩) (by assumption) rfl ?_
                  rotate_left
                  · intro w' hSw
                    have g0 := below_cell hSw g0; have g1 := below_cell hSw g1; have g2 := below_cell hSw g2; have g3 := below_cell hSw g3; have g4 := below_cell hSw g4; have x0 := below_cell hSw x0; have x1 := below_cell hSw x1
                    go_simp <;> with_reducible rfl
                  simp only [List.setIfInBounds_toArray, List.set_cons_succ, List.set_cons_zero]
                  refine wpAnyH_takeD (i := 2) 43 rfl (by kernel_rfl) (by kernel_rfl) (by kernel_rfl) (fun _ _ _ h => h) (Or.inr ⟨by kernel_rfl, rfl⟩) (by assumption) rfl ?_
                  simp only [List.setIfInBounds_toArray, List.set_cons_succ, List.set_cons_zero]
                  refine wpAnyH_takeD (i := 3) 44 rfl (by kernel_rfl) (by kernel_rfl) (by kernel_rfl) (fun _ _ _ h => h) (Or.inr ⟨by kernel_rfl, rfl⟩) (by assumption) rfl ?_
                  simp only [List.setIfInBounds_toArray, List.set_cons_succ, List.set_cons_zero]
                  refine wpAnyH_takeD (i := 4) 45 rfl (by kernel_rfl) (by kernel_rfl) (by kernel_rfl) (fun _ _ _ h => h) (Or.inr ⟨by kernel_rfl, rfl⟩) (by assumption) rfl ?_
                  simp only [List.setIfInBounds_toArray, List.set_cons_succ, List.set_cons_zero]
                  refine wpAnyH_takeD (i := 5) 46 rfl (by kernel_rfl) (by kernel_rfl) (by kernel_rfl) (fun _ _ _ h => h) (Or.inr ⟨by kernel_rfl, rfl⟩) (by assumption) rfl ?_
                  simp only [List.setIfInBounds_toArray, List.set_cons_succ, List.set_cons_zero]
                  refine wpAnyH_takeD (i := 6) 47 rfl (by kernel_rfl) (by kernel_rfl) (by kernel_rfl) (fun _ _ _ h => h) (Or.inr ⟨by kernel_rfl, rfl⟩) (by assumption) rfl ?_
                  simp only [List.setIfInBounds_toArray, List.set_cons_succ, List.set_cons_zero]
                  refine wpAnyH_takeD (i := 7) 48 rfl (by kernel_rfl) (by kernel_rfl) (by kernel_rfl) (fun _ _ _ h => h) (Or.inr ⟨by kernel_rfl, rfl⟩) (by assumption) rfl ?_
                  simp only [List.setIfInBounds_toArray, List.set_cons_succ, List.set_cons_zero]
                  refine wpAnyH_takeD (i := 8) 49 rfl (by kernel_rfl) (by kernel_rfl) (by kernel_rfl) (fun _ _ _ h => h) (Or.inr ⟨by kernel_rfl, rfl⟩) (by assumption) rfl ?_
                  simp only [List.setIfInBounds_toArray, List.set_cons_succ, List.set_cons_zero]
                  refine wpAnyH_takeD (i := 9) 50 rfl (by kernel_rfl) (by kernel_rfl) (by kernel_rfl) (fun _ _ _ h => h) (Or.inr ⟨by kernel_rfl, rfl⟩) (by assumption) rfl ?_
                  simp only [List.setIfInBounds_toArray, List.set_cons_succ, List.set_cons_zero]
                  refine wpAnyH_takeD (i := 10) 51 rfl (by kernel_rfl) (by kernel_rfl) (by kernel_rfl) (fun _ _ _ h => h) (Or.inr ⟨by kernel_rfl, rfl⟩) (by assumption) rfl ?_
                  simp only [List.setIfInBounds_toArray, List.set_cons_succ, List.set_cons_zero]
                  refine wpAnyH_takeD (i := 11) 52 rfl (by kernel_rfl) (by kernel_rfl) (by kernel_rfl) (fun _ _ _ h => h) (Or.inr ⟨by kernel_rfl, rfl⟩) (by assumption) rfl ?_
                  simp only [List.setIfInBounds_toArray, List.set_cons_succ, List.set_cons_zero]
                  refine wpAnyH_takeD (i := 12) 53 rfl (by kernel_rfl) (by kernel_rfl) (by kernel_rfl) (fun _ _ _ h => h) (Or.inr ⟨by kernel_rfl, rfl⟩) (by assumption) rfl ?_
                  simp only [List.setIfInBounds_toArray, List.set_cons_succ, List.set_cons_zero]
                  refine wpAnyH_takeD (i := 13) 54 rfl (by kernel_rfl) (by kernel_rfl) (by kernel_rfl) (fun _ _ _ h => h) (Or.inr ⟨by kernel_rfl, rfl⟩) (by assumption) rfl ?_
                  simp only [List.setIfInBounds_toArray, List.set_cons_succ, List.set_cons_zero]
                  refine wpAnyH_takeD (i := 14) 55 rfl (by kernel_rfl) (by kernel_rfl) (by kernel_rfl) (fun _ _ _ h => h) (Or.inr ⟨by kernel_rfl, rfl⟩) (by assumption) rfl ?_
                  simp only [List.setIfInBounds_toArray, List.set_cons_succ, List.set_cons_zero]
                  refine wpAnyH_takeD (i := 15) 56 rfl (by kernel_rfl) (by kernel_rfl) (by kernel_rfl) (fun _ _ _ h => h) (Or.inr ⟨by kernel_rfl, rfl⟩) (by assumption) rfl ?_
                  simp only [List.setIfInBounds_toArray, List.set_cons_succ, List.set_cons_zero]
                  refine wpAnyH_takeD (i := 16) 57 rfl (by kernel_rfl) (by kernel_rfl) (by kernel_rfl) (fun _ _ _ h => h) (Or.inr ⟨by kernel_rfl, rfl⟩) (by assumption) rfl ?_
                  simp only [List.setIfInBounds_toArray, List.set_cons_succ, List.set_cons_zero]
                  refine wpAnyH_takeD (i := 17) 58 rfl (by kernel_rfl) (by kernel_rfl) (by kernel_rfl) (fun _ _ _ h => h) (Or.inr ⟨by kernel_rfl, rfl⟩) (by assumption) rfl ?_
                  simp only [List.setIfInBounds_toArray, List.set_cons_succ, List.set_cons_zero]
                  refine wpAnyH_takeD (i := 18) 59 rfl (by kernel_rfl) (by kernel_rfl) (by kernel_rfl) (fun _ _ _ h => h) (Or.inr ⟨by kernel_rfl, rfl⟩) (by assumption) rfl ?_
                  simp only [List.setIfInBounds_toArray, List.set_cons_succ, List.set_cons_zero]
                  refine wpAnyH_takeD (i := 19) 60 rfl (by kernel_rfl) (by kernel_rfl) (by kernel_rfl) (fun _ _ _ h => h) (Or.inr ⟨by kernel_rfl, rfl⟩) (by assumption) rfl ?_
                  simp only [List.setIfInBounds_toArray, List.set_cons_succ, List.set_cons_zero]
                  refine wpAnyH_takeD (i := 20) 61 rfl (by kernel_rfl) (by kernel_rfl) (by kernel_rfl) (fun _ _ _ h => h) (Or.inr ⟨by kernel_rfl, rfl⟩) (by assumption) rfl ?_
                  simp only [List.setIfInBounds_toArray, List.set_cons_succ, List.set_cons_zero]
                  refine wpAnyH_takeD (i := 21) (v := ?_) 62 rfl (by kernel_rfl) (by kernel_rfl) (by kernel_rfl) (fun _ _ _ h => h) (Or.inl ⟨by rfl, ?_⟩) (by assumption) rfl ?_
                  rotate_left
                  · intro w' hSw
                    have g0 := below_cell hSw g0; have g1 := below_cell hSw g1; have g2 := below_cell hSw g2; have g3 := below_cell hSw g3; have g4 := below_cell hSw g4; have x0 := below_cell hSw x0; have x1 := below_cell hSw x1
                    go_simp <;> with_reducible rfl
                  simp only [List.setIfInBounds_toArray, List.set_cons_succ, List.set_cons_zero]
                  refine wpAnyH_takeD (i := 22) (v := ?_) 8 rfl (by kernel_rfl) (by kernel_rfl) (by kernel_rfl) (fun _ _ _ h => h) (Or.inl ⟨by rfl, ?_⟩) (by assumption) rfl ?_
                  rotate_left
                  · intro w' hSw
                    have g0 := below_cell hSw g0; have g1 := below_cell hSw g1; have g2 := below_cell hSw g2; have g3 := below_cell hSw g3; have g4 := below_cell hSw g4; have x0 := below_cell hSw x0; have x1 := below_cell hSw x1
                    go_simp <;> with_reducible rfl
                  simp only [List.setIfInBounds_toArray, List.set_cons_succ, List.set_cons_zero]
                  refine wpAnyH_done (by kernel_rfl) ?_ _
                  have HI2 := Lib.hid (HI.out.trans (hHeld.mono HI.out.size))
                  clear g0 g1 g2 g3 g4 x0 x1 HI hHeld
                  go_wp2
                  exact ⟨⟨j + 1, true, by go_num, rfl, HQ2.out, by omega, HI2.out⟩, by simp [intOf]; omega⟩
                | false =>
                  by_cases hyr : yr = Y
                  · have b1 : (yr == Y) = true := beq_iff_eq.2 hyr
                    have HQ2 := Lib.hid (show takesB ⟨nm, yr, se, sl, wit⟩ s = yB (ds.take (j + 1)) s Y by rw [HT.out, ← HQ.out, decide_eq_true hyr]; simp)
                    obtain ⟨tq, htq⟩ : ∃ x, takesB ⟨nm, yr, se, sl, wit⟩ s = x := ⟨_, rfl⟩
                    have HTq := Lib.hid (fun w' (hw : Below wr.heap.size wr w') => rtakes_any nm yr se sl wit Aw nw cw s w' (HWt.out w' hw))
                    rw [htq] at HTq HQ2
                    clear htq hyr
                    clear HT HQ
                    go_upto_region 17 with fail
                    refine wp_region_held_drew (S := fun w' => Below wr.heap.size wr w') (by kernel_rfl) (below_drew (Below.refl _ _)) (fun hHeld => ?_)
                    refine wpAnyH_takeD (i := 0) (v := ?_) 41 rfl (by kernel_rfl) (by kernel_rfl) (by kernel_rfl) (fun _ _ _ h => h) (Or.inl ⟨by rfl, ?_⟩) (by assumption) rfl ?_
                    rotate_left
                    · intro w' hSw
                      have g0 := below_cell hSw g0; have g1 := below_cell hSw g1; have g2 := below_cell hSw g2; have g3 := below_cell hSw g3; have g4 := below_cell hSw g4; have x0 := below_cell hSw x0; have x1 := below_cell hSw x1
                      go_simp <;> with_reducible rfl
                    simp only [List.setIfInBounds_toArray, List.set_cons_succ, List.set_cons_zero]
                    refine wpAnyH_takeD (i := 1) (v := ?_) 42 rfl (by kernel_rfl) (by kernel_rfl) (by kernel_rfl) (fun _ _ _ h => h) (Or.inl ⟨by rfl, ?_⟩) (by assumption) rfl ?_
                    rotate_left
                    · intro w' hSw
                      have g0 := below_cell hSw g0; have g1 := below_cell hSw g1; have g2 := below_cell hSw g2; have g3 := below_cell hSw g3; have g4 := below_cell hSw g4; have x0 := below_cell hSw x0; have x1 := below_cell hSw x1
                      go_simp <;> with_reducible rfl
                    simp only [List.setIfInBounds_toArray, List.set_cons_succ, List.set_cons_zero]
                    refine wpAnyH_takeD (i := 2) (v := ?_) 43 rfl (by kernel_rfl) (by kernel_rfl) (by kernel_rfl) (fun _ _ _ h => h) (Or.inl ⟨by rfl, ?_⟩) (by assumption) rfl ?_
                    rotate_left
                    · intro w' hSw
                      have g0 := below_cell hSw g0; have g1 := below_cell hSw g1; have g2 := below_cell hSw g2; have g3 := below_cell hSw g3; have g4 := below_cell hSw g4; have x0 := below_cell hSw x0; have x1 := below_cell hSw x1
                      go_simp <;> with_reducible rfl
                    simp only [List.setIfInBounds_toArray, List.set_cons_succ, List.set_cons_zero]
                    refine wpAnyH_takeD (i := 3) (v := ?_) 44 rfl (by kernel_rfl) (by kernel_rfl) (by kernel_rfl) (fun _ _ _ h => h) (Or.inl ⟨by rfl, ?_⟩) (by assumption) rfl ?_
                    rotate_left
                    · intro w' hSw
                      have g0 := below_cell hSw g0; have g1 := below_cell hSw g1; have g2 := below_cell hSw g2; have g3 := below_cell hSw g3; have g4 := below_cell hSw g4; have x0 := below_cell hSw x0; have x1 := below_cell hSw x1
                      go_simp <;> with_reducible rfl
                    simp only [List.setIfInBounds_toArray, List.set_cons_succ, List.set_cons_zero]
                    refine wpAnyH_takeD (i := 4) (v := ?_) 45 rfl (by kernel_rfl) (by kernel_rfl) (by kernel_rfl) (fun _ _ _ h => h) (Or.inl ⟨by rfl, ?_⟩) (by assumption) rfl ?_
                    rotate_left
                    · intro w' hSw
                      have g0 := below_cell hSw g0; have g1 := below_cell hSw g1; have g2 := below_cell hSw g2; have g3 := below_cell hSw g3; have g4 := below_cell hSw g4; have x0 := below_cell hSw x0; have x1 := below_cell hSw x1
                      go_simp <;> with_reducible rfl
                    simp only [List.setIfInBounds_toArray, List.set_cons_succ, List.set_cons_zero]
                    refine wpAnyH_takeD (i := 5) (v := ?_) 46 rfl (by kernel_rfl) (by kernel_rfl) (by kernel_rfl) (fun _ _ _ h => h) (Or.inl ⟨by rfl, ?_⟩) (by assumption) rfl ?_
                    rotate_left
                    · intro w' hSw
                      have g0 := below_cell hSw g0; have g1 := below_cell hSw g1; have g2 := below_cell hSw g2; have g3 := below_cell hSw g3; have g4 := below_cell hSw g4; have x0 := below_cell hSw x0; have x1 := below_cell hSw x1
                      go_simp <;> with_reducible rfl
                    simp only [List.setIfInBounds_toArray, List.set_cons_succ, List.set_cons_zero]
                    refine wpAnyH_takeD (i := 6) (v := ?_) 47 rfl (by kernel_rfl) (by kernel_rfl) (by kernel_rfl) (fun _ _ _ h => h) (Or.inl ⟨by rfl, ?_⟩) (by assumption) rfl ?_
                    rotate_left
                    · intro w' hSw
                      have g0 := below_cell hSw g0; have g1 := below_cell hSw g1; have g2 := below_cell hSw g2; have g3 := below_cell hSw g3; have g4 := below_cell hSw g4; have x0 := below_cell hSw x0; have x1 := below_cell hSw x1
                      go_simp <;> with_reducible rfl
                    simp only [List.setIfInBounds_toArray, List.set_cons_succ, List.set_cons_zero]
                    refine wpAnyH_takeD (i := 7) (v := ?_) 48 rfl (by kernel_rfl) (by kernel_rfl) (by kernel_rfl) (fun _ _ _ h => h) (Or.inl ⟨by rfl, ?_⟩) (by assumption) rfl ?_
                    rotate_left
                    · intro w' hSw
                      have g0 := below_cell hSw g0; have g1 := below_cell hSw g1; have g2 := below_cell hSw g2; have g3 := below_cell hSw g3; have g4 := below_cell hSw g4; have x0 := below_cell hSw x0; have x1 := below_cell hSw x1
                      go_simp <;> with_reducible rfl
                    simp only [List.setIfInBounds_toArray, List.set_cons_succ, List.set_cons_zero]
                    refine wpAnyH_takeD (i := 8) (v := ?_) 49 rfl (by kernel_rfl) (by kernel_rfl) (by kernel_rfl) (fun _ _ _ h => h) (Or.inl ⟨by rfl, ?_⟩) (by assumption) rfl ?_
                    rotate_left
                    · intro w' hSw
                      have g0 := below_cell hSw g0; have g1 := below_cell hSw g1; have g2 := below_cell hSw g2; have g3 := below_cell hSw g3; have g4 := below_cell hSw g4; have x0 := below_cell hSw x0; have x1 := below_cell hSw x1
                      go_simp <;> with_reducible rfl
                    simp only [List.setIfInBounds_toArray, List.set_cons_succ, List.set_cons_zero]
                    refine wpAnyH_takeD (i := 9) (v := ?_) 50 rfl (by kernel_rfl) (by kernel_rfl) (by kernel_rfl) (fun _ _ _ h => h) (Or.inl ⟨by rfl, ?_⟩) (by assumption) rfl ?_
                    rotate_left
                    · intro w' hSw
                      have g0 := below_cell hSw g0; have g1 := below_cell hSw g1; have g2 := below_cell hSw g2; have g3 := below_cell hSw g3; have g4 := below_cell hSw g4; have x0 := below_cell hSw x0; have x1 := below_cell hSw x1
                      go_simp <;> with_reducible rfl
                    simp only [List.setIfInBounds_toArray, List.set_cons_succ, List.set_cons_zero]
                    refine wpAnyH_takeD (i := 10) (v := ?_) 51 rfl (by kernel_rfl) (by kernel_rfl) (by kernel_rfl) (fun _ _ _ h => h) (Or.inl ⟨by rfl, ?_⟩) (by assumption) rfl ?_
                    rotate_left
                    · intro w' hSw
                      have g0 := below_cell hSw g0; have g1 := below_cell hSw g1; have g2 := below_cell hSw g2; have g3 := below_cell hSw g3; have g4 := below_cell hSw g4; have x0 := below_cell hSw x0; have x1 := below_cell hSw x1
                      go_simp <;> with_reducible rfl
                    simp only [List.setIfInBounds_toArray, List.set_cons_succ, List.set_cons_zero]
                    refine wpAnyH_takeD (i := 11) (v := ?_) 52 rfl (by kernel_rfl) (by kernel_rfl) (by kernel_rfl) (fun _ _ _ h => h) (Or.inl ⟨by rfl, ?_⟩) (by assumption) rfl ?_
                    rotate_left
                    · intro w' hSw
                      have g0 := below_cell hSw g0; have g1 := below_cell hSw g1; have g2 := below_cell hSw g2; have g3 := below_cell hSw g3; have g4 := below_cell hSw g4; have x0 := below_cell hSw x0; have x1 := below_cell hSw x1
                      go_simp <;> with_reducible rfl
                    simp only [List.setIfInBounds_toArray, List.set_cons_succ, List.set_cons_zero]
                    refine wpAnyH_takeD (i := 12) (v := ?_) 53 rfl (by kernel_rfl) (by kernel_rfl) (by kernel_rfl) (fun _ _ _ h => h) (Or.inl ⟨by rfl, ?_⟩) (by assumption) rfl ?_
                    rotate_left
                    · intro w' hSw
                      have g0 := below_cell hSw g0; have g1 := below_cell hSw g1; have g2 := below_cell hSw g2; have g3 := below_cell hSw g3; have g4 := below_cell hSw g4; have x0 := below_cell hSw x0; have x1 := below_cell hSw x1
                      go_simp <;> with_reducible rfl
                    simp only [List.setIfInBounds_toArray, List.set_cons_succ, List.set_cons_zero]
                    refine wpAnyH_takeD (i := 13) (v := ?_) 54 rfl (by kernel_rfl) (by kernel_rfl) (by kernel_rfl) (fun _ _ _ h => h) (Or.inl ⟨by rfl, ?_⟩) (by assumption) rfl ?_
                    rotate_left
                    · intro w' hSw
                      have g0 := below_cell hSw g0; have g1 := below_cell hSw g1; have g2 := below_cell hSw g2; have g3 := below_cell hSw g3; have g4 := below_cell hSw g4; have x0 := below_cell hSw x0; have x1 := below_cell hSw x1
                      go_simp <;> with_reducible rfl
                    simp only [List.setIfInBounds_toArray, List.set_cons_succ, List.set_cons_zero]
                    refine wpAnyH_takeD (i := 14) (v := ?_) 55 rfl (by kernel_rfl) (by kernel_rfl) (by kernel_rfl) (fun _ _ _ h => h) (Or.inl ⟨by rfl, ?_⟩) (by assumption) rfl ?_
                    rotate_left
                    · intro w' hSw
                      have g0 := below_cell hSw g0; have g1 := below_cell hSw g1; have g2 := below_cell hSw g2; have g3 := below_cell hSw g3; have g4 := below_cell hSw g4; have x0 := below_cell hSw x0; have x1 := below_cell hSw x1
                      go_simp <;> with_reducible rfl
                    simp only [List.setIfInBounds_toArray, List.set_cons_succ, List.set_cons_zero]
                    refine wpAnyH_takeD (i := 15) (v := ?_) 56 rfl (by kernel_rfl) (by kernel_rfl) (by kernel_rfl) (fun _ _ _ h => h) (Or.inl ⟨by rfl, ?_⟩) (by assumption) rfl ?_
                    rotate_left
                    · intro w' hSw
                      have g0 := below_cell hSw g0; have g1 := below_cell hSw g1; have g2 := below_cell hSw g2; have g3 := below_cell hSw g3; have g4 := below_cell hSw g4; have x0 := below_cell hSw x0; have x1 := below_cell hSw x1
                      go_simp <;> with_reducible rfl
                    simp only [List.setIfInBounds_toArray, List.set_cons_succ, List.set_cons_zero]
                    refine wpAnyH_takeD (i := 16) (v := ?_) 57 rfl (by kernel_rfl) (by kernel_rfl) (by kernel_rfl) (fun _ _ _ h => h) (Or.inl ⟨by rfl, ?_⟩) (by assumption) rfl ?_
                    rotate_left
                    · intro w' hSw
                      have g0 := below_cell hSw g0; have g1 := below_cell hSw g1; have g2 := below_cell hSw g2; have g3 := below_cell hSw g3; have g4 := below_cell hSw g4; have x0 := below_cell hSw x0; have x1 := below_cell hSw x1
                      go_simp <;> with_reducible rfl
                    simp only [List.setIfInBounds_toArray, List.set_cons_succ, List.set_cons_zero]
                    refine wpAnyH_takeD (i := 17) (v := ?_) 58 rfl (by kernel_rfl) (by kernel_rfl) (by kernel_rfl) (fun _ _ _ h => h) (Or.inl ⟨by rfl, ?_⟩) (by assumption) rfl ?_
                    rotate_left
                    · intro w' hSw
                      have g0 := below_cell hSw g0; have g1 := below_cell hSw g1; have g2 := below_cell hSw g2; have g3 := below_cell hSw g3; have g4 := below_cell hSw g4; have x0 := below_cell hSw x0; have x1 := below_cell hSw x1
                      go_simp <;> with_reducible rfl
                    simp only [List.setIfInBounds_toArray, List.set_cons_succ, List.set_cons_zero]
                    refine wpAnyH_takeD (i := 18) (v := ?_) 59 rfl (by kernel_rfl) (by kernel_rfl) (by kernel_rfl) (fun _ _ _ h => h) (Or.inl ⟨by rfl, ?_⟩) (by assumption) rfl ?_
                    rotate_left
                    · intro w' hSw
                      have g0 := below_cell hSw g0; have g1 := below_cell hSw g1; have g2 := below_cell hSw g2; have g3 := below_cell hSw g3; have g4 := below_cell hSw g4; have x0 := below_cell hSw x0; have x1 := below_cell hSw x1
                      go_simp <;> with_reducible rfl
                    simp only [List.setIfInBounds_toArray, List.set_cons_succ, List.set_cons_zero]
                    refine wpAnyH_ready (rs := [19]) (by kernel_rfl) (by simp) ?_
                    refine AllReadyH.cons (o := _) rfl (fun K hK => ?_) AllReadyH.nil
                    go_simp
                    go_at_call 91
                    refine (HTq.out _ hHeld).mono ?_
                    rintro e w41 ⟨rfl, hb41⟩
                    have HV41 := Lib.hid (hHeld.trans (hb41.mono hHeld.size))
                    clear hb41
                    refine hK.out _ _ HV41.out (fun hHeld2 => ?_)
                    clear hK K
                    refine wpAnyH_takeD (i := 20) (v := ?_) 61 rfl (by kernel_rfl) (by kernel_rfl) (by kernel_rfl) (fun _ _ _ h => h) (Or.inl ⟨by rfl, ?_⟩) (by assumption) rfl ?_
                    rotate_left
                    · intro w' hSw
                      have g0 := below_cell hSw g0; have g1 := below_cell hSw g1; have g2 := below_cell hSw g2; have g3 := below_cell hSw g3; have g4 := below_cell hSw g4; have x0 := below_cell hSw x0; have x1 := below_cell hSw x1
                      go_simp <;> with_reducible rfl
                    simp only [List.setIfInBounds_toArray, List.set_cons_succ, List.set_cons_zero]
                    refine wpAnyH_takeD (i := 21) (v := ?_) 62 rfl (by kernel_rfl) (by kernel_rfl) (by kernel_rfl) (fun _ _ _ h => h) (Or.inl ⟨by rfl, ?_⟩) (by assumption) rfl ?_
                    rotate_left
                    · intro w' hSw
                      have g0 := below_cell hSw g0; have g1 := below_cell hSw g1; have g2 := below_cell hSw g2; have g3 := below_cell hSw g3; have g4 := below_cell hSw g4; have x0 := below_cell hSw x0; have x1 := below_cell hSw x1
                      go_simp <;> with_reducible rfl
                    simp only [List.setIfInBounds_toArray, List.set_cons_succ, List.set_cons_zero]
                    refine wpAnyH_takeD (i := 22) (v := ?_) 8 rfl (by kernel_rfl) (by kernel_rfl) (by kernel_rfl) (fun _ _ _ h => h) (Or.inl ⟨by rfl, ?_⟩) (by assumption) rfl ?_
                    rotate_left
                    · intro w' hSw
                      have g0 := below_cell hSw g0; have g1 := below_cell hSw g1; have g2 := below_cell hSw g2; have g3 := below_cell hSw g3; have g4 := below_cell hSw g4; have x0 := below_cell hSw x0; have x1 := below_cell hSw x1
                      go_simp <;> with_reducible rfl
                    simp only [List.setIfInBounds_toArray, List.set_cons_succ, List.set_cons_zero]
                    refine wpAnyH_done (by kernel_rfl) ?_ _
                    have HI2 := Lib.hid (HI.out.trans (HV41.out.mono HI.out.size))
                    clear g0 g1 g2 g3 g4 x0 x1 HI hHeld
                    go_wp2
                    exact ⟨⟨j + 1, tq, by go_num, rfl, HQ2.out, by omega, HI2.out⟩, by simp [intOf]; omega⟩
                  · have b1 : (yr == Y) = false := beq_eq_false_iff_ne.2 hyr
                    have HQ2 := Lib.hid (show false = yB (ds.take (j + 1)) s Y by rw [HT.out, ← HQ.out, decide_eq_false hyr]; rfl)
                    clear HT HQ hyr
                    go_upto_region 17 with fail
                    refine wp_region_held_drew (S := fun w' => Below wr.heap.size wr w') (by kernel_rfl) (below_drew (Below.refl _ _)) (fun hHeld => ?_)
                    refine wpAnyH_takeD (i := 0) (v := ?_) 41 rfl (by kernel_rfl) (by kernel_rfl) (by kernel_rfl) (fun _ _ _ h => h) (Or.inl ⟨by rfl, ?_⟩) (by assumption) rfl ?_
                    rotate_left
                    · intro w' hSw
                      have g0 := below_cell hSw g0; have g1 := below_cell hSw g1; have g2 := below_cell hSw g2; have g3 := below_cell hSw g3; have g4 := below_cell hSw g4; have x0 := below_cell hSw x0; have x1 := below_cell hSw x1
                      go_simp <;> with_reducible rfl
                    simp only [List.setIfInBounds_toArray, List.set_cons_succ, List.set_cons_zero]
                    refine wpAnyH_takeD (i := 1) (v := ?_) 42 rfl (by kernel_rfl) (by kernel_rfl) (by kernel_rfl) (fun _ _ _ h => h) (Or.inl ⟨by rfl, ?_⟩) (by assumption) rfl ?_
                    rotate_left
                    · intro w' hSw
                      have g0 := below_cell hSw g0; have g1 := below_cell hSw g1; have g2 := below_cell hSw g2; have g3 := below_cell hSw g3; have g4 := below_cell hSw g4; have x0 := below_cell hSw x0; have x1 := below_cell hSw x1
                      go_simp <;> with_reducible rfl
                    simp only [List.setIfInBounds_toArray, List.set_cons_succ, List.set_cons_zero]
                    refine wpAnyH_takeD (i := 2) (v := ?_) 43 rfl (by kernel_rfl) (by kernel_rfl) (by kernel_rfl) (fun _ _ _ h => h) (Or.inl ⟨by rfl, ?_⟩) (by assumption) rfl ?_
                    rotate_left
                    · intro w' hSw
                      have g0 := below_cell hSw g0; have g1 := below_cell hSw g1; have g2 := below_cell hSw g2; have g3 := below_cell hSw g3; have g4 := below_cell hSw g4; have x0 := below_cell hSw x0; have x1 := below_cell hSw x1
                      go_simp <;> with_reducible rfl
                    simp only [List.setIfInBounds_toArray, List.set_cons_succ, List.set_cons_zero]
                    refine wpAnyH_takeD (i := 3) (v := ?_) 44 rfl (by kernel_rfl) (by kernel_rfl) (by kernel_rfl) (fun _ _ _ h => h) (Or.inl ⟨by rfl, ?_⟩) (by assumption) rfl ?_
                    rotate_left
                    · intro w' hSw
                      have g0 := below_cell hSw g0; have g1 := below_cell hSw g1; have g2 := below_cell hSw g2; have g3 := below_cell hSw g3; have g4 := below_cell hSw g4; have x0 := below_cell hSw x0; have x1 := below_cell hSw x1
                      go_simp <;> with_reducible rfl
                    simp only [List.setIfInBounds_toArray, List.set_cons_succ, List.set_cons_zero]
                    refine wpAnyH_takeD (i := 4) (v := ?_) 45 rfl (by kernel_rfl) (by kernel_rfl) (by kernel_rfl) (fun _ _ _ h => h) (Or.inl ⟨by rfl, ?_⟩) (by assumption) rfl ?_
                    rotate_left
                    · intro w' hSw
                      have g0 := below_cell hSw g0; have g1 := below_cell hSw g1; have g2 := below_cell hSw g2; have g3 := below_cell hSw g3; have g4 := below_cell hSw g4; have x0 := below_cell hSw x0; have x1 := below_cell hSw x1
                      go_simp <;> with_reducible rfl
                    simp only [List.setIfInBounds_toArray, List.set_cons_succ, List.set_cons_zero]
                    refine wpAnyH_takeD (i := 5) (v := ?_) 46 rfl (by kernel_rfl) (by kernel_rfl) (by kernel_rfl) (fun _ _ _ h => h) (Or.inl ⟨by rfl, ?_⟩) (by assumption) rfl ?_
                    rotate_left
                    · intro w' hSw
                      have g0 := below_cell hSw g0; have g1 := below_cell hSw g1; have g2 := below_cell hSw g2; have g3 := below_cell hSw g3; have g4 := below_cell hSw g4; have x0 := below_cell hSw x0; have x1 := below_cell hSw x1
                      go_simp <;> with_reducible rfl
                    simp only [List.setIfInBounds_toArray, List.set_cons_succ, List.set_cons_zero]
                    refine wpAnyH_takeD (i := 6) (v := ?_) 47 rfl (by kernel_rfl) (by kernel_rfl) (by kernel_rfl) (fun _ _ _ h => h) (Or.inl ⟨by rfl, ?_⟩) (by assumption) rfl ?_
                    rotate_left
                    · intro w' hSw
                      have g0 := below_cell hSw g0; have g1 := below_cell hSw g1; have g2 := below_cell hSw g2; have g3 := below_cell hSw g3; have g4 := below_cell hSw g4; have x0 := below_cell hSw x0; have x1 := below_cell hSw x1
                      go_simp <;> with_reducible rfl
                    simp only [List.setIfInBounds_toArray, List.set_cons_succ, List.set_cons_zero]
                    refine wpAnyH_takeD (i := 7) (v := ?_) 48 rfl (by kernel_rfl) (by kernel_rfl) (by kernel_rfl) (fun _ _ _ h => h) (Or.inl ⟨by rfl, ?_⟩) (by assumption) rfl ?_
                    rotate_left
                    · intro w' hSw
                      have g0 := below_cell hSw g0; have g1 := below_cell hSw g1; have g2 := below_cell hSw g2; have g3 := below_cell hSw g3; have g4 := below_cell hSw g4; have x0 := below_cell hSw x0; have x1 := below_cell hSw x1
                      go_simp <;> with_reducible rfl
                    simp only [List.setIfInBounds_toArray, List.set_cons_succ, List.set_cons_zero]
                    refine wpAnyH_takeD (i := 8) (v := ?_) 49 rfl (by kernel_rfl) (by kernel_rfl) (by kernel_rfl) (fun _ _ _ h => h) (Or.inl ⟨by rfl, ?_⟩) (by assumption) rfl ?_
                    rotate_left
                    · intro w' hSw
                      have g0 := below_cell hSw g0; have g1 := below_cell hSw g1; have g2 := below_cell hSw g2; have g3 := below_cell hSw g3; have g4 := below_cell hSw g4; have x0 := below_cell hSw x0; have x1 := below_cell hSw x1
                      go_simp <;> with_reducible rfl
                    simp only [List.setIfInBounds_toArray, List.set_cons_succ, List.set_cons_zero]
                    refine wpAnyH_takeD (i := 9) (v := ?_) 50 rfl (by kernel_rfl) (by kernel_rfl) (by kernel_rfl) (fun _ _ _ h => h) (Or.inl ⟨by rfl, ?_⟩) (by assumption) rfl ?_
                    rotate_left
                    · intro w' hSw
                      have g0 := below_cell hSw g0; have g1 := below_cell hSw g1; have g2 := below_cell hSw g2; have g3 := below_cell hSw g3; have g4 := below_cell hSw g4; have x0 := below_cell hSw x0; have x1 := below_cell hSw x1
                      go_simp <;> with_reducible rfl
                    simp only [List.setIfInBounds_toArray, List.set_cons_succ, List.set_cons_zero]
                    refine wpAnyH_takeD (i := 10) 51 rfl (by kernel_rfl) (by kernel_rfl) (by kernel_rfl) (fun _ _ _ h => h) (Or.inr ⟨by kernel_rfl, rfl⟩) (by assumption) rfl ?_
                    simp only [List.setIfInBounds_toArray, List.set_cons_succ, List.set_cons_zero]
                    refine wpAnyH_takeD (i := 11) 52 rfl (by kernel_rfl) (by kernel_rfl) (by kernel_rfl) (fun _ _ _ h => h) (Or.inr ⟨by kernel_rfl, rfl⟩) (by assumption) rfl ?_
                    simp only [List.setIfInBounds_toArray, List.set_cons_succ, List.set_cons_zero]
                    refine wpAnyH_takeD (i := 12) 53 rfl (by kernel_rfl) (by kernel_rfl) (by kernel_rfl) (fun _ _ _ h => h) (Or.inr ⟨by kernel_rfl, rfl⟩) (by assumption) rfl ?_
                    simp only [List.setIfInBounds_toArray, List.set_cons_succ, List.set_cons_zero]
                    refine wpAnyH_takeD (i := 13) 54 rfl (by kernel_rfl) (by kernel_rfl) (by kernel_rfl) (fun _ _ _ h => h) (Or.inr ⟨by kernel_rfl, rfl⟩) (by assumption) rfl ?_
                    simp only [List.setIfInBounds_toArray, List.set_cons_succ, List.set_cons_zero]
                    refine wpAnyH_takeD (i := 14) 55 rfl (by kernel_rfl) (by kernel_rfl) (by kernel_rfl) (fun _ _ _ h => h) (Or.inr ⟨by kernel_rfl, rfl⟩) (by assumption) rfl ?_
                    simp only [List.setIfInBounds_toArray, List.set_cons_succ, List.set_cons_zero]
                    refine wpAnyH_takeD (i := 15) 56 rfl (by kernel_rfl) (by kernel_rfl) (by kernel_rfl) (fun _ _ _ h => h) (Or.inr ⟨by kernel_rfl, rfl⟩) (by assumption) rfl ?_
                    simp only [List.setIfInBounds_toArray, List.set_cons_succ, List.set_cons_zero]
                    refine wpAnyH_takeD (i := 16) 57 rfl (by kernel_rfl) (by kernel_rfl) (by kernel_rfl) (fun _ _ _ h => h) (Or.inr ⟨by kernel_rfl, rfl⟩) (by assumption) rfl ?_
                    simp only [List.setIfInBounds_toArray, List.set_cons_succ, List.set_cons_zero]
                    refine wpAnyH_takeD (i := 17) 58 rfl (by kernel_rfl) (by kernel_rfl) (by kernel_rfl) (fun _ _ _ h => h) (Or.inr ⟨by kernel_rfl, rfl⟩) (by assumption) rfl ?_
                    simp only [List.setIfInBounds_toArray, List.set_cons_succ, List.set_cons_zero]
                    refine wpAnyH_takeD (i := 18) 59 rfl (by kernel_rfl) (by kernel_rfl) (by kernel_rfl) (fun _ _ _ h => h) (Or.inr ⟨by kernel_rfl, rfl⟩) (by assumption) rfl ?_
                    simp only [List.setIfInBounds_toArray, List.set_cons_succ, List.set_cons_zero]
                    refine wpAnyH_takeD (i := 19) 60 rfl (by kernel_rfl) (by kernel_rfl) (by kernel_rfl) (fun _ _ _ h => h) (Or.inr ⟨by kernel_rfl, rfl⟩) (by assumption) rfl ?_
                    simp only [List.setIfInBounds_toArray, List.set_cons_succ, List.set_cons_zero]
                    refine wpAnyH_takeD (i := 20) (v := ?_) 61 rfl (by kernel_rfl) (by kernel_rfl) (by kernel_rfl) (fun _ _ _ h => h) (Or.inl ⟨by rfl, ?_⟩) (by assumption) rfl ?_
                    rotate_left
                    · intro w' hSw
                      have g0 := below_cell hSw g0; have g1 := below_cell hSw g1; have g2 := below_cell hSw g2; have g3 := below_cell hSw g3; have g4 := below_cell hSw g4; have x0 := below_cell hSw x0; have x1 := below_cell hSw x1
                      go_simp <;> with_reducible rfl
                    simp only [List.setIfInBounds_toArray, List.set_cons_succ, List.set_cons_zero]
                    refine wpAnyH_takeD (i := 21) (v := ?_) 62 rfl (by kernel_rfl) (by kernel_rfl) (by kernel_rfl) (fun _ _ _ h => h) (Or.inl ⟨by rfl, ?_⟩) (by assumption) rfl ?_
                    rotate_left
                    · intro w' hSw
                      have g0 := below_cell hSw g0; have g1 := below_cell hSw g1; have g2 := below_cell hSw g2; have g3 := below_cell hSw g3; have g4 := below_cell hSw g4; have x0 := below_cell hSw x0; have x1 := below_cell hSw x1
                      go_simp <;> with_reducible rfl
                    simp only [List.setIfInBounds_toArray, List.set_cons_succ, List.set_cons_zero]
                    refine wpAnyH_takeD (i := 22) (v := ?_) 8 rfl (by kernel_rfl) (by kernel_rfl) (by kernel_rfl) (fun _ _ _ h => h) (Or.inl ⟨by rfl, ?_⟩) (by assumption) rfl ?_
                    rotate_left
                    · intro w' hSw
                      have g0 := below_cell hSw g0; have g1 := below_cell hSw g1; have g2 := below_cell hSw g2; have g3 := below_cell hSw g3; have g4 := below_cell hSw g4; have x0 := below_cell hSw x0; have x1 := below_cell hSw x1
                      go_simp <;> with_reducible rfl
                    simp only [List.setIfInBounds_toArray, List.set_cons_succ, List.set_cons_zero]
                    refine wpAnyH_done (by kernel_rfl) ?_ _
                    have HI2 := Lib.hid (HI.out.trans (hHeld.mono HI.out.size))
                    clear g0 g1 g2 g3 g4 x0 x1 HI hHeld
                    go_wp2
                    exact ⟨⟨j + 1, false, by go_num, rfl, HQ2.out, by omega, HI2.out⟩, by simp [intOf]; omega⟩
              · have HQe := Lib.hid (show q = yB ds s Y by rw [HQ.out, List.take_of_length_le (by omega)])
                rw [← HQe.out] at HTm
                have HO1 := Lib.hid (HO.out.below HO.out.lt HI.out)
                have HW1 := Lib.hid (own_below HW.out HI.out)
                have HR1 := Lib.hid (HR.out.below HR.out.lt HI.out)
                have HP1 := Lib.hid (HP.out.trans (HI.out.mono HP.out.size))
                have HB1 := Lib.hid (HB.out.trans (HI.out.mono HB.out.size))
                clear HO HW HR HP HB HQ HI HQe
                obtain ⟨fj, hfj⟩ : ∃ fj, factsK ds k ++ (yrs ds s m).map (actF s) = fj := ⟨_, rfl⟩
                rw [hfj] at HW1 HTm HLm HO1
                have HFj := Lib.hid hfj
                clear hfj
                cases q with
                | false =>
                  have HE := Lib.hid (show factsK ds k ++ (yrs ds s (m + 1)).map (actF s) = fj from HTm.out.trans (by simp))
                  clear HTm
                  go_wp2
                  exact ⟨⟨m + 1, Y + 1, .slice Ab fj.length cb, by go_num, HYs.out, by omega, by omega, HO1.out, by rw [HE.out]; exact HW1.out, HR1.out, HP1.out, HB1.out⟩, by simp [intOf]; omega⟩
                | true =>
                  have HE := Lib.hid (show factsK ds k ++ (yrs ds s (m + 1)).map (actF s) = fj ++ [actF s Y] from HTm.out)
                  clear HTm
                  have HL1 := Lib.hid HO1.out.lt
                  go_upto_region 19 with fail
                  have HS0 := Lib.hid (fun (w' : World) (h0 : w'.cell? ⟨Bo, 0, none⟩ = some (.slice (some ⟨b5, o5, none⟩) (allF ds).length c2)) (hb : Below w2.heap.size w2 w') => (⟨h0, below_cell hb HCs.out⟩ : (w'.cell? ⟨Bo, 0, none⟩ = some (.slice (some ⟨b5, o5, none⟩) (allF ds).length c2) ∧ w'.cell? ⟨b5, o5 + k, none⟩ = some (.string s))))
                  have HSd := HS0.out wr.drew (HO1.out.cell 0 _ rfl) (below_drew HP1.out)
                  refine wp_region_held_drew (S := fun w' => (w'.cell? ⟨Bo, 0, none⟩ = some (.slice (some ⟨b5, o5, none⟩) (allF ds).length c2) ∧ w'.cell? ⟨b5, o5 + k, none⟩ = some (.string s))) (by kernel_rfl) HSd (fun hHeld => ?_)
                  clear HSd
                  have HO2 : Hid (Cel wr.drew Bo 25 #[.slice (some ⟨b5, o5, none⟩) (allF ds).length c2, .slice Ab fj.length cb]) := HO1
                  have HW2 : Hid (wr.drew.ownsRow (Bo + 1) 76 4 (.slice Ab fj.length cb) fj.length (fasV fj)) := HW1
                  have HR2 : Hid (Cel wr.drew w.heap.size 25 #[.slice none 0 0, .slice none 0 0]) := HR1
                  have HP3 := Lib.hid (below_drew HP1.out)
                  have HB3 := Lib.hid (below_drew HB1.out)
                  have HL2 : Hid (Bo < wr.drew.heap.size) := HL1
                  clear HO1 HW1 HR1 HP1 HB1 HL1
                  generalize wr.drew = V at *
                  refine wpAnyH_takeD (i := 0) (v := ?_) 64 rfl (by kernel_rfl) (by kernel_rfl) (by kernel_rfl) (fun _ _ _ h => h) (Or.inl ⟨by rfl, ?_⟩) (by assumption) rfl ?_
                  rotate_left
                  · intro w' hSw
                    have x0 := hSw.1; have x1 := hSw.2
                    go_simp <;> with_reducible rfl
                  simp only [List.setIfInBounds_toArray, List.set_cons_succ, List.set_cons_zero]
                  refine wpAnyH_takeD (i := 2) (v := ?_) 66 rfl (by kernel_rfl) (by kernel_rfl) (by kernel_rfl) (fun _ _ _ h => h) (Or.inl ⟨by rfl, ?_⟩) (by assumption) rfl ?_
                  rotate_left
                  · intro w' hSw
                    have x0 := hSw.1; have x1 := hSw.2
                    go_simp <;> with_reducible rfl
                  simp only [List.setIfInBounds_toArray, List.set_cons_succ, List.set_cons_zero]
                  refine wpAnyH_takeD (i := 3) (v := ?_) 67 rfl (by kernel_rfl) (by kernel_rfl) (by kernel_rfl) (fun _ _ _ h => h) (Or.inl ⟨by rfl, ?_⟩) (by assumption) rfl ?_
                  rotate_left
                  · intro w' hSw
                    have x0 := hSw.1; have x1 := hSw.2
                    go_simp <;> with_reducible rfl
                  simp only [List.setIfInBounds_toArray, List.set_cons_succ, List.set_cons_zero]
                  refine wpAnyH_takeD (i := 4) (v := ?_) 68 rfl (by kernel_rfl) (by kernel_rfl) (by kernel_rfl) (fun _ _ _ h => h) (Or.inl ⟨by rfl, ?_⟩) (by assumption) rfl ?_
                  rotate_left
                  · intro w' hSw
                    have x0 := hSw.1; have x1 := hSw.2
                    go_simp <;> with_reducible rfl
                  simp only [List.setIfInBounds_toArray, List.set_cons_succ, List.set_cons_zero]
                  refine wpAnyH_takeD (i := 5) (v := ?_) 69 rfl (by kernel_rfl) (by kernel_rfl) (by kernel_rfl) (fun _ _ _ h => h) (Or.inl ⟨by rfl, ?_⟩) (by assumption) rfl ?_
                  rotate_left
                  · intro w' hSw
                    have x0 := hSw.1; have x1 := hSw.2
                    go_simp <;> with_reducible rfl
                  simp only [List.setIfInBounds_toArray, List.set_cons_succ, List.set_cons_zero]
                  refine wpAnyH_takeD (i := 6) (v := ?_) 70 rfl (by kernel_rfl) (by kernel_rfl) (by kernel_rfl) (fun _ _ _ h => h) (Or.inl ⟨by rfl, ?_⟩) (by assumption) rfl ?_
                  rotate_left
                  · intro w' hSw
                    have x0 := hSw.1; have x1 := hSw.2
                    go_simp <;> with_reducible rfl
                  simp only [List.setIfInBounds_toArray, List.set_cons_succ, List.set_cons_zero]
                  refine wpAnyH_takeD (i := 7) (v := ?_) 71 rfl (by kernel_rfl) (by kernel_rfl) (by kernel_rfl) (fun _ _ _ h => h) (Or.inl ⟨by rfl, ?_⟩) (by assumption) rfl ?_
                  rotate_left
                  · intro w' hSw
                    have x0 := hSw.1; have x1 := hSw.2
                    go_simp <;> with_reducible rfl
                  simp only [List.setIfInBounds_toArray, List.set_cons_succ, List.set_cons_zero]
                  refine wpAnyH_takeD (i := 8) (v := ?_) 72 rfl (by kernel_rfl) (by kernel_rfl) (by kernel_rfl) (fun _ _ _ h => h) (Or.inl ⟨by rfl, ?_⟩) (by assumption) rfl ?_
                  rotate_left
                  · intro w' hSw
                    have x0 := hSw.1; have x1 := hSw.2
                    go_simp <;> with_reducible rfl
                  simp only [List.setIfInBounds_toArray, List.set_cons_succ, List.set_cons_zero]
                  refine wpAnyH_ready (rs := [1, 9]) (by kernel_rfl) (by simp) ?_
                  refine AllReadyH.cons (o := _) rfl (fun K hK => ?_) (AllReadyH.cons (o := _) rfl (fun K hK => ?_) AllReadyH.nil)
                  · have o1 := HO2.out.cell 1 _ rfl
                    go_simp
                    refine hK.out _ _ (HS0.out _ (HO2.out.cell 0 _ rfl) HP3.out) (fun hHeld2 => ?_)
                    clear hK K o1
                    refine wpAnyH_ready (rs := [9]) (by kernel_rfl) (by simp) ?_
                    refine AllReadyH.cons (o := _) rfl (fun K hK => ?_) AllReadyH.nil
                    go_simp
                    refine hK.out _ _ (HS0.out _ ((HO2.out.alloc (.cells #[.int .i64 5, .string s, .string ⟨#[]⟩, .int .i64 Y] 76)).cell 0 _ rfl) (HP3.out.alloc HP3.out.size (.cells #[.int .i64 5, .string s, .string ⟨#[]⟩, .int .i64 Y] 76))) (fun hHeld3 => ?_)
                    clear hK K
                    refine wpAnyH_ready (rs := [10]) (by kernel_rfl) (by simp) ?_
                    refine AllReadyH.cons (o := _) rfl (fun K hK => ?_) AllReadyH.nil
                    have HSx := Lib.hid (Sl.new (s := 4) V 76 1 1 #[.int .i64 5, .string s, .string ⟨#[]⟩, .int .i64 Y] rfl (Nat.le_refl _) (by decide))
                    refine stepFact (.tmp 65) (.tmp 73) rfl rfl (by rfl) (by rfl) (HW2.out.alloc (.cells #[.int .i64 5, .string s, .string ⟨#[]⟩, .int .i64 Y] 76)) HSx.out (by simp [Value.oneCell']) (N := fj.length + 1) (by simp; omega) (by have := HLm.out; omega) (by have := HL2.out; simp; omega) ?_
                    intro A5 c5 w5 hap
                    have HBn := Lib.hid (below_of_own hap.grown (HW2.out.alloc (.cells #[.int .i64 5, .string s, .string ⟨#[]⟩, .int .i64 Y] 76)) (HB3.out.alloc HB3.out.size (.cells #[.int .i64 5, .string s, .string ⟨#[]⟩, .int .i64 Y] 76)) (by have := HBo.out; omega))
                    have HOn := Lib.hid ((HO2.out.alloc (.cells #[.int .i64 5, .string s, .string ⟨#[]⟩, .int .i64 Y] 76)).kept hap.grown (fun e => by have := own_ge (HW2.out.alloc (.cells #[.int .i64 5, .string s, .string ⟨#[]⟩, .int .i64 Y] 76)) e.symm; omega))
                    have HRn := Lib.hid ((HR2.out.alloc (.cells #[.int .i64 5, .string s, .string ⟨#[]⟩, .int .i64 Y] 76)).kept hap.grown (fun e => by have := own_ge (HW2.out.alloc (.cells #[.int .i64 5, .string s, .string ⟨#[]⟩, .int .i64 Y] 76)) e.symm; have := HBo.out; omega))
                    have HWn := Lib.hid hap.own
                    have HPn := Lib.hid (below_of_own hap.grown (HW2.out.alloc (.cells #[.int .i64 5, .string s, .string ⟨#[]⟩, .int .i64 Y] 76)) (HP3.out.alloc HP3.out.size (.cells #[.int .i64 5, .string s, .string ⟨#[]⟩, .int .i64 Y] 76)) (by have := HBe.out; omega))
                    clear hap
                    go_simp
                    refine hK.out _ _ (HS0.out _ (HOn.out.cell 0 _ rfl) HPn.out) (fun hHeld4 => ?_)
                    clear hK K
                    refine wpAnyH_takeD (i := 11) (v := ?_) 75 rfl (by kernel_rfl) (by kernel_rfl) (by kernel_rfl) (fun _ _ _ h => h) (Or.inl ⟨by rfl, ?_⟩) (by assumption) rfl ?_
                    rotate_left
                    · intro w' hSw
                      go_simp <;> with_reducible rfl
                    simp only [List.setIfInBounds_toArray, List.set_cons_succ, List.set_cons_zero]
                    have f1 := HOn.out.frozen 1
                    have o1 := HOn.out.cell 1 _ rfl
                    have HO9 := Lib.hid (HOn.out.setAt 1 (.slice A5 (fj.length + 1) c5))
                    have HP9 := Lib.hid (HPn.out.setCell (p := ⟨Bo, 1, none⟩) (by have := HBe.out; simp; omega) (.slice A5 (fj.length + 1) c5))
                    refine wpAnyH_ready (rs := [12]) (by kernel_rfl) (by simp) ?_
                    refine AllReadyH.cons (o := _) rfl (fun K hK => ?_) AllReadyH.nil
                    go_simp
                    refine hK.out _ _ (HS0.out _ (HO9.out.cell 0 _ rfl) HP9.out) (fun hHeld5 => ?_)
                    clear hK K
                    refine wpAnyH_done (by kernel_rfl) ?_ _
                    go_wp2
                    refine ⟨⟨m + 1, Y + 1, .slice A5 (fj.length + 1) c5, by go_num, HYs.out, by omega, by omega, HO9.out, ?_, HRn.out.other (p := ⟨Bo, 1, none⟩) (by have := HBo.out; simp; omega) _, HP9.out, HBn.out.setCell (p := ⟨Bo, 1, none⟩) (by have := HBo.out; simp; omega) _⟩, by simp [intOf]; omega⟩
                    show World.ownsRow _ _ _ _ _ _ _
                    rw [HE.out, List.length_append, List.length_singleton, fas_snoc]
                    exact own_ne HWn.out (fun e => by have := own_ge HWn.out e; simp at this; omega) _
                  · go_simp
                    refine hK.out _ _ (HS0.out _ ((HO2.out.alloc (.cells #[.int .i64 5, .string s, .string ⟨#[]⟩, .int .i64 Y] 76)).cell 0 _ rfl) (HP3.out.alloc HP3.out.size (.cells #[.int .i64 5, .string s, .string ⟨#[]⟩, .int .i64 Y] 76))) (fun hHeld3 => ?_)
                    clear hK K
                    have o1 := (HO2.out.alloc (.cells #[.int .i64 5, .string s, .string ⟨#[]⟩, .int .i64 Y] 76)).cell 1 _ rfl
                    refine wpAnyH_ready (rs := [1]) (by kernel_rfl) (by simp) ?_
                    refine AllReadyH.cons (o := _) rfl (fun K hK => ?_) AllReadyH.nil
                    go_simp
                    refine hK.out _ _ (HS0.out _ ((HO2.out.alloc (.cells #[.int .i64 5, .string s, .string ⟨#[]⟩, .int .i64 Y] 76)).cell 0 _ rfl) (HP3.out.alloc HP3.out.size (.cells #[.int .i64 5, .string s, .string ⟨#[]⟩, .int .i64 Y] 76))) (fun hHeld2 => ?_)
                    clear o1
                    clear hK K
                    refine wpAnyH_ready (rs := [10]) (by kernel_rfl) (by simp) ?_
                    refine AllReadyH.cons (o := _) rfl (fun K hK => ?_) AllReadyH.nil
                    have HSx := Lib.hid (Sl.new (s := 4) V 76 1 1 #[.int .i64 5, .string s, .string ⟨#[]⟩, .int .i64 Y] rfl (Nat.le_refl _) (by decide))
                    refine stepFact (.tmp 65) (.tmp 73) rfl rfl (by rfl) (by rfl) (HW2.out.alloc (.cells #[.int .i64 5, .string s, .string ⟨#[]⟩, .int .i64 Y] 76)) HSx.out (by simp [Value.oneCell']) (N := fj.length + 1) (by simp; omega) (by have := HLm.out; omega) (by have := HL2.out; simp; omega) ?_
                    intro A5 c5 w5 hap
                    have HBn := Lib.hid (below_of_own hap.grown (HW2.out.alloc (.cells #[.int .i64 5, .string s, .string ⟨#[]⟩, .int .i64 Y] 76)) (HB3.out.alloc HB3.out.size (.cells #[.int .i64 5, .string s, .string ⟨#[]⟩, .int .i64 Y] 76)) (by have := HBo.out; omega))
                    have HOn := Lib.hid ((HO2.out.alloc (.cells #[.int .i64 5, .string s, .string ⟨#[]⟩, .int .i64 Y] 76)).kept hap.grown (fun e => by have := own_ge (HW2.out.alloc (.cells #[.int .i64 5, .string s, .string ⟨#[]⟩, .int .i64 Y] 76)) e.symm; omega))
                    have HRn := Lib.hid ((HR2.out.alloc (.cells #[.int .i64 5, .string s, .string ⟨#[]⟩, .int .i64 Y] 76)).kept hap.grown (fun e => by have := own_ge (HW2.out.alloc (.cells #[.int .i64 5, .string s, .string ⟨#[]⟩, .int .i64 Y] 76)) e.symm; have := HBo.out; omega))
                    have HWn := Lib.hid hap.own
                    have HPn := Lib.hid (below_of_own hap.grown (HW2.out.alloc (.cells #[.int .i64 5, .string s, .string ⟨#[]⟩, .int .i64 Y] 76)) (HP3.out.alloc HP3.out.size (.cells #[.int .i64 5, .string s, .string ⟨#[]⟩, .int .i64 Y] 76)) (by have := HBe.out; omega))
                    clear hap
                    go_simp
                    refine hK.out _ _ (HS0.out _ (HOn.out.cell 0 _ rfl) HPn.out) (fun hHeld4 => ?_)
                    clear hK K
                    refine wpAnyH_takeD (i := 11) (v := ?_) 75 rfl (by kernel_rfl) (by kernel_rfl) (by kernel_rfl) (fun _ _ _ h => h) (Or.inl ⟨by rfl, ?_⟩) (by assumption) rfl ?_
                    rotate_left
                    · intro w' hSw
                      go_simp <;> with_reducible rfl
                    simp only [List.setIfInBounds_toArray, List.set_cons_succ, List.set_cons_zero]
                    have f1 := HOn.out.frozen 1
                    have o1 := HOn.out.cell 1 _ rfl
                    have HO9 := Lib.hid (HOn.out.setAt 1 (.slice A5 (fj.length + 1) c5))
                    have HP9 := Lib.hid (HPn.out.setCell (p := ⟨Bo, 1, none⟩) (by have := HBe.out; simp; omega) (.slice A5 (fj.length + 1) c5))
                    refine wpAnyH_ready (rs := [12]) (by kernel_rfl) (by simp) ?_
                    refine AllReadyH.cons (o := _) rfl (fun K hK => ?_) AllReadyH.nil
                    go_simp
                    refine hK.out _ _ (HS0.out _ (HO9.out.cell 0 _ rfl) HP9.out) (fun hHeld5 => ?_)
                    clear hK K
                    refine wpAnyH_done (by kernel_rfl) ?_ _
                    go_wp2
                    refine ⟨⟨m + 1, Y + 1, .slice A5 (fj.length + 1) c5, by go_num, HYs.out, by omega, by omega, HO9.out, ?_, HRn.out.other (p := ⟨Bo, 1, none⟩) (by have := HBo.out; simp; omega) _, HP9.out, HBn.out.setCell (p := ⟨Bo, 1, none⟩) (by have := HBo.out; simp; omega) _⟩, by simp [intOf]; omega⟩
                    show World.ownsRow _ _ _ _ _ _ _
                    rw [HE.out, List.length_append, List.length_singleton, fas_snoc]
                    exact own_ne HWn.out (fun e => by have := own_ge HWn.out e; simp at this; omega) _
          · have hm : m = 2001 := by have := HYm.out; omega
            subst hm
            rw [← HFe.out] at HW HO
            go_wp2
            exact ⟨⟨k + 1, .slice Ab (factsK ds (k + 1)).length cb, by go_num, by omega, HO.out, HW.out, HR.out, HP.out, HB.out⟩, by simp [intOf]; omega⟩
      · have HE := Lib.hid (factsK_all (ds := ds) (k := k) (by omega))
        rw [HE.out] at HW HO
        clear HE
        have o1 := HO.out.cell 1 _ rfl
        by_cases h48 : 48 < (factsD ds).length
        · have n1 : (48 : Int) < ((factsD ds).length : Int) := by omega
          have hr := Lib.hid (H48.out HH.out h48)
          have q0 := HR.out.frozen 0
          have q1 := HR.out.frozen 1
          have q2 := HR.out.cell 0 _ rfl
          have q3 := HR.out.cell 1 _ rfl
          go_wp2
          have kk := HR.out.set2 (.slice none 0 0) (.slice none 0 0)
          have k0 := kk.cell 0 _ rfl
          have k1' := kk.cell 1 _ rfl
          have HEn := Lib.hid ((HB.out.setCell (p := ⟨w.heap.size, 0, none⟩) (by simp) (.slice none 0 0)).setCell (p := ⟨w.heap.size, 1, none⟩) (by simp) (.slice none 0 0))
          clear kk
          exact bodyPost_ret (v := .tuple #[.agg #[.slice none 0 0, .slice none 0 0], .int .i64 3]) (by simp [results, Tryz.results44, go_sem, k0, k1']) rfl ⟨HEn.out, _, _, _, _, _, _, by rw [hr.out], by rw [hr.out]; exact net_nil _⟩
        · have n1 : ¬ (48 : Int) < ((factsD ds).length : Int) := by omega
          have hr := Lib.hid (HOk.out HH.out h48)
          have HPe := Lib.hid (HP2.out.below HP.out)
          have q0 := HR.out.frozen 0
          have q1 := HR.out.frozen 1
          have q2 := HR.out.cell 0 _ rfl
          have q3 := HR.out.cell 1 _ rfl
          go_wp2
          have kk := HR.out.set2 (.slice A2 (allF ds).length c2) (.slice Ab (factsD ds).length cb)
          have k0 := kk.cell 0 _ rfl
          have k1' := kk.cell 1 _ rfl
          clear kk
          have q4 := (HR.out.setAt 0 (.slice A2 (allF ds).length c2)).cell 1 (.slice none 0 0) rfl
          have HSl := Lib.hid (((Sl.of_own HW.out).setCell q2 (fun u hu => fas_plain hu _ _ _) (.slice A2 (allF ds).length c2)).setCell q4 (fun u hu => fas_plain hu _ _ _) (.slice Ab (factsD ds).length cb))
          have HSp := Lib.hid ((HPe.out.setCell q2 (fun u hu => nm_plain hu _ _ _) (.slice A2 (allF ds).length c2)).setCell q4 (fun u hu => nm_plain hu _ _ _) (.slice Ab (factsD ds).length cb))
          have HBf := Lib.hid ((HB.out.setCell (p := ⟨w.heap.size, 0, none⟩) (by simp) (.slice A2 (allF ds).length c2)).setCell (p := ⟨w.heap.size, 1, none⟩) (by simp) (.slice Ab (factsD ds).length cb))
          clear q4
          exact bodyPost_ret (v := .tuple #[.agg #[.slice A2 (allF ds).length c2, .slice Ab (factsD ds).length cb], .int .i64 0]) (by simp [results, Tryz.results44, go_sem, k0, k1']) rfl ⟨HBf.out, _, _, _, _, _, _, by rw [hr.out], by rw [hr.out]; exact ⟨HSp.out, HSl.out⟩⟩
/-- The reference answers as the program. -/
theorem rfromDeeds_any (v : Value) (ds : List De) (w : World) (h : DeedsV w v ds) (hs : ShortDs ds) :
    Calls Tryz.prog 44 #[v] w (MergeP (fromD ds) w) := by
  rcases checkDF_cases ds with hc | hc | hc
  · have := rfromDeeds_bad 3 (.inl rfl) v ds w h hs hc
    unfold fromD
    rw [hc, if_pos (by decide)]
    exact this
  · have := rfromDeeds_bad 102 (.inr rfl) v ds w h hs hc
    unfold fromD
    rw [hc, if_pos (by decide)]
    exact this
  · refine rfromDeeds_good v ds w h hs hc _ (fun q => ?_) (fun p q => ?_) (fun p q => ?_)
    · unfold fromD
      rw [hc, if_neg (by decide), if_pos (.inl q)]
    · unfold fromD
      rw [hc, if_neg (by decide), if_pos (.inr q)]
    · unfold fromD
      rw [hc, if_neg (by decide), if_neg (fun z => z.elim p q)]
end Go.Proofs.YtdmcopjbckelmaaGreatDoor
