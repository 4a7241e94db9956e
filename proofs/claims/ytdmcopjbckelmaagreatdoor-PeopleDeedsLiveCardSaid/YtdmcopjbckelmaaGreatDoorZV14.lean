/- PeopleDeedsLive: the walk. Conditions: those stated. -/
import Derived.Test.YtdmcopjbckelmaaGreatDoorZUB
import Derived.Test.YtdmcopjbckelmaaGreatDoorZUD
import Derived.Test.YtdmcopjbckelmaaGreatDoorZC
import Derived.Test.YtdmcopjbckelmaaGreatDoorZH
import Derived.BigQuiet
namespace Go.Proofs.YtdmcopjbckelmaaGreatDoor
open Go Go.RowKit Go.Shelf
attribute [local go_sem] Oper.semAt_some
/-- The network of deeds is valid. -/
theorem from_check {ds : List De} (hc : checkDF ds = 0) (h1 : (allF ds).length ≤ 24) (h2 : (factsD ds).length ≤ 48) : checkF (allF ds) (factsD ds) = 0 := by
  have hn : namesOk (allF ds) = true := by
    refine namesOk_iff.2 ⟨fun s hs => ?_, ?_⟩
    · obtain ⟨d, hd, ht⟩ := mem_allF.1 hs
      obtain ⟨i, hi, e⟩ := List.getElem_of_mem hd
      have hk := (checkDF_ok hc).2 i hi
      unfold okD at hk
      rw [show ds.getD i noDe = d by rw [List.getD_eq_getElem?_getD, List.getElem?_eq_getElem hi, e]; rfl, Bool.and_eq_true] at hk
      have hb := hk.1
      unfold deedB at hb
      rw [Bool.and_eq_true] at hb
      obtain ⟨hh, hw⟩ := hb
      unfold takesB at ht
      rw [Bool.or_eq_true] at ht
      rcases ht with q | q
      · unfold headB at hh
        simp only [Bool.and_eq_true] at hh
        rw [← of_decide_eq_true q]
        exact hh.2.2.2.1
      · obtain ⟨j, hj, e⟩ := List.getElem_of_mem (memB_iff.1 q)
        have := List.all_eq_true.1 hw j (List.mem_range.2 hj)
        unfold witOk at this
        rw [Bool.and_eq_true, List.getD_eq_getElem?_getD, List.getElem?_eq_getElem hj, Option.getD_some, e] at this
        exact this.1
    · have hi : IncS (allF ds) := setL_inc _
      unfold IncS IncB bytesL at hi
      rw [List.pairwise_map] at hi
      exact hi.imp (fun h => by rw [ByteArray.toList_eq, ByteArray.toList_eq]; exact h)
  unfold checkF
  rw [if_neg (by omega), hn, List.all_eq_true.2 (fun f hf => factsD_about (deed_years hc) f hf)]
  rfl
/-- Somebody of the people takes part in two deeds too far apart. -/
def FarAt (ds : List De) (i k m : Nat) : Prop := ∃ d e s, ds[i]? = some d ∧ ds[k]? = some e ∧ (allF ds)[m]? = some s ∧ 90 < d.year - e.year ∧ takesB d s = true ∧ takesB e s = true
def FarK (ds : List De) (i k m : Nat) (q : Bool) : Prop := q = true ↔ ∃ i' k' m', (i' < i ∨ (i' = i ∧ (k' < k ∨ (k' = k ∧ m' < m)))) ∧ FarAt ds i' k' m'
theorem FarK.start (ds : List De) : FarK ds 0 0 0 false := ⟨(fun q => by cases q), (fun ⟨i', k', m', q, _⟩ => by omega)⟩
theorem FarK.step {ds : List De} {i k m : Nat} {q p : Bool} (h : FarK ds i k m q) (hp : p = true ↔ FarAt ds i k m) : FarK ds i k (m + 1) (q || p) := by
  unfold FarK at h ⊢
  rw [Bool.or_eq_true, h, hp]
  constructor
  · rintro (⟨i', k', m', h1, h2⟩ | h2)
    · exact ⟨i', k', m', by omega, h2⟩
    · exact ⟨i, k, m, by omega, h2⟩
  · rintro ⟨i', k', m', h1, h2⟩
    by_cases e : i' = i ∧ k' = k ∧ m' = m
    · obtain ⟨rfl, rfl, rfl⟩ := e
      exact .inr h2
    · exact .inl ⟨i', k', m', by omega, h2⟩
theorem FarK.near {ds : List De} {i k : Nat} {q : Bool} (h : FarK ds i k 0 q) (hn : ∀ m, ¬ FarAt ds i k m) : FarK ds i (k + 1) 0 q := by
  unfold FarK at h ⊢
  rw [h]
  constructor
  · rintro ⟨i', k', m', h1, h2⟩
    exact ⟨i', k', m', by omega, h2⟩
  · rintro ⟨i', k', m', h1, h2⟩
    by_cases e : i' = i ∧ k' = k
    · obtain ⟨rfl, rfl⟩ := e
      exact absurd h2 (hn m')
    · exact ⟨i', k', m', by omega, h2⟩
theorem FarAt.lt {ds : List De} {i k m : Nat} (h : FarAt ds i k m) : i < ds.length ∧ k < ds.length ∧ m < (allF ds).length := by
  obtain ⟨d, e, s, h1, h2, h3, _⟩ := h
  exact ⟨(List.getElem?_eq_some_iff.1 h1).1, (List.getElem?_eq_some_iff.1 h2).1, (List.getElem?_eq_some_iff.1 h3).1⟩
theorem FarK.nextK {ds : List De} {i k m : Nat} {q : Bool} (h : FarK ds i k m q) (hm : (allF ds).length ≤ m) : FarK ds i (k + 1) 0 q := by
  unfold FarK at h ⊢
  rw [h]
  constructor
  · rintro ⟨i', k', m', h1, h2⟩
    exact ⟨i', k', m', by omega, h2⟩
  · rintro ⟨i', k', m', h1, h2⟩
    exact ⟨i', k', m', by have := h2.lt; omega, h2⟩
theorem FarK.nextI {ds : List De} {i k : Nat} {q : Bool} (h : FarK ds i k 0 q) (hk : ds.length ≤ k) : FarK ds (i + 1) 0 0 q := by
  unfold FarK at h ⊢
  rw [h]
  constructor
  · rintro ⟨i', k', m', h1, h2⟩
    exact ⟨i', k', m', by omega, h2⟩
  · rintro ⟨i', k', m', h1, h2⟩
    exact ⟨i', k', m', by have := h2.lt; omega, h2⟩
theorem FarK.all {ds : List De} {i : Nat} {q : Bool} (h : FarK ds i 0 0 q) (hi : ds.length ≤ i) : q = true ↔ farD ds := by
  unfold FarK at h
  rw [h]
  constructor
  · rintro ⟨i', k', m', _, d, e, s, h1, h2, h3, h4, h5, h6⟩
    exact ⟨d, List.mem_of_getElem? h1, e, List.mem_of_getElem? h2, h4, s, h5, h6⟩
  · rintro ⟨d, hd, e, he, h4, s, h5, h6⟩
    obtain ⟨a, ha⟩ := List.mem_iff_getElem?.1 hd
    obtain ⟨b, hb⟩ := List.mem_iff_getElem?.1 he
    obtain ⟨m, hm⟩ := List.mem_iff_getElem?.1 (mem_allF.2 ⟨d, hd, h5⟩)
    exact ⟨a, b, m, by have := (List.getElem?_eq_some_iff.1 ha).1; omega, d, e, s, ha, hb, hm, h4, h5, h6⟩
set_option maxRecDepth 100000 in
set_option maxHeartbeats 8000000 in
theorem deedsLive_bad (A : Option Addr) (c : Nat) (ds : List De) (w : World) (h : DeedsV w (.slice A ds.length c) ds) (hs : ShortDs ds) (hz : Zw w) (r : Int) (hr : r = 3 ∨ r = 102) (hf : fromD ds = ([], [], r)) :
    Calls Tryz.prog 7 #[.slice A ds.length c] w fun e w' => e = .returned (.bool true) ∧ Below w.heap.size w w' := by
  have HWk := Lib.hid (fun w' hb => works_any w' (hz.below hb))
  have HFd := Lib.hid (fromDeeds_any (.slice A ds.length c) ds w h hs)
  rw [hf] at HFd
  unfold MergeP at HFd
  simp only at HFd
  clear h hs hz hf
  rcases hr with rfl | rfl
  all_goals
    go_enter Tryz.func7, Tryz.ntmps7
    go_wp2_with fail
    refine HFd.out.mono ?_
    rintro e w1 ⟨hb1, A2, n2, c2, F2, m2, d2, rfl, hn⟩
    obtain ⟨e1, e2, _⟩ := hn.many
    have e1' : n2 = 0 := e1
    have e2' : m2 = 0 := e2
    subst e1'
    subst e2'
    have HN := Lib.hid hn
    have HB1 := Lib.hid hb1
    clear hb1 hn e1 e2
    have l0 := (Cel.new w1 25 #[.slice none 0 0, .slice none 0 0]).cell 0 _ rfl
    have l1 := (Cel.new w1 25 #[.slice none 0 0, .slice none 0 0]).cell 1 _ rfl
    have l2 := (Cel.new w1 25 #[.slice none 0 0, .slice none 0 0]).frozen 0
    have l3 := (Cel.new w1 25 #[.slice none 0 0, .slice none 0 0]).frozen 1
    go_upto_region 2 with fail
    clear l0 l1 l2 l3
    have HO := Lib.hid (Cel.new w1 25 #[.slice A2 0 c2, .slice F2 0 d2])
    have hb2 := below_alloc' w1 (.cells #[.slice A2 0 c2, .slice F2 0 d2] 25)
    have HB2 := Lib.hid (HB1.out.trans (hb2.mono HB1.out.size))
    replace HN := Lib.hid (HN.out.below hb2)
    obtain ⟨Bo, hBo⟩ : ∃ B, w1.heap.size = B := ⟨_, rfl⟩
    generalize w1.alloc (.cells #[.slice A2 0 c2, .slice F2 0 d2] 25) = w2 at *
    rw [hBo] at HO ⊢
    clear hb2 hBo HB1
    have o0 := HO.out.cell 0 _ rfl
    have o1 := HO.out.cell 1 _ rfl
    go_wp2_with fail
    refine (HWk.out _ HB2.out).mono ?_
    rintro e wz ⟨rfl, hbz⟩
    have HBz := Lib.hid (HB2.out.trans (hbz.mono HB2.out.size))
    clear hbz
    go_wp2
    go_ret
    exact ⟨rfl, HBz.out⟩
set_option maxRecDepth 100000 in
set_option maxHeartbeats 8000000 in
theorem deedsLive_good (A : Option Addr) (c : Nat) (ds : List De) (w : World) (h : DeedsV w (.slice A ds.length c) ds) (hs : ShortDs ds) (hz : Zw w) (hc : checkDF ds = 0) (h24 : (allF ds).length ≤ 24) (h48 : (factsD ds).length ≤ 48) :
    Calls Tryz.prog 7 #[.slice A ds.length c] w fun e w' => e = .returned (.bool true) ∧ Below w.heap.size w w' := by
  have hf : fromD ds = (allF ds, factsD ds, 0) := by
    unfold fromD
    rw [hc, if_neg (by decide), if_neg (by omega)]
  have hck := from_check hc h24 h48
  have HWk := Lib.hid (fun w' hb => works_any w' (hz.below hb))
  have HFd := Lib.hid (fromDeeds_any (.slice A ds.length c) ds w h hs)
  rw [hf] at HFd
  unfold MergeP at HFd
  simp only at HFd
  have hsh : Short (allF ds) := fun s hs' => by
    obtain ⟨d, hd, ht⟩ := mem_allF.1 hs'
    have hq := hs d hd
    unfold takesB at ht
    rw [Bool.or_eq_true] at ht
    rcases ht with q | q
    · rw [← of_decide_eq_true q]; exact hq.1.2.1
    · exact hq.2 s (memB_iff.1 q)
  have HCo := Lib.hid (fun A n c F m d w' (hn : NetC w' A n c F m d (allF ds) (factsD ds)) => consistent_any A n c F m d (allF ds) (factsD ds) w' hn hsh)
  have hcv : consF (allF ds) (factsD ds) = (solveF (allF ds) (factsD ds)).isSome := by
    unfold consF
    rw [decide_eq_true hck, Bool.true_and]
  rw [hck, hcv] at HCo
  have HSo := Lib.hid (deeds_solve h24 (factsD_about (deed_years hc)))
  have HYr := Lib.hid (deed_years hc)
  generalize (solveF (allF ds) (factsD ds)).isSome = sv at *
  obtain ⟨_, a1, a2⟩ := h.many
  have HD := Lib.hid (fun q => h.deed q)
  have HS0 := Lib.hid (FarK.start ds)
  clear h hs hz hf hck hsh hcv
  go_enter Tryz.func7, Tryz.ntmps7
  go_wp2_with fail
  refine HFd.out.mono ?_
  rintro e w1 ⟨hb1, A2, n2, c2, F2, m2, d2, rfl, hn⟩
  obtain ⟨e1, e2, e3, e4, _⟩ := hn.many
  subst e1
  subst e2
  have HN := Lib.hid hn
  have HB1 := Lib.hid hb1
  clear hb1 hn HFd
  have l0 := (Cel.new w1 25 #[.slice none 0 0, .slice none 0 0]).cell 0 _ rfl
  have l1 := (Cel.new w1 25 #[.slice none 0 0, .slice none 0 0]).cell 1 _ rfl
  have l2 := (Cel.new w1 25 #[.slice none 0 0, .slice none 0 0]).frozen 0
  have l3 := (Cel.new w1 25 #[.slice none 0 0, .slice none 0 0]).frozen 1
  go_upto_region 2 with fail
  clear l0 l1 l2 l3
  have HO := Lib.hid (Cel.new w1 25 #[.slice A2 (allF ds).length c2, .slice F2 (factsD ds).length d2])
  have hb2 := below_alloc' w1 (.cells #[.slice A2 (allF ds).length c2, .slice F2 (factsD ds).length d2] 25)
  have HB2 := Lib.hid (HB1.out.trans (hb2.mono HB1.out.size))
  replace HN := Lib.hid (HN.out.below hb2)
  obtain ⟨Bo, hBo⟩ : ∃ B, w1.heap.size = B := ⟨_, rfl⟩
  generalize w1.alloc (.cells #[.slice A2 (allF ds).length c2, .slice F2 (factsD ds).length d2] 25) = w2 at *
  rw [hBo] at HO ⊢
  clear hb2 hBo HB1
  have o0 := HO.out.cell 0 _ rfl
  have o1 := HO.out.cell 1 _ rfl
  go_wp2_with fail
  refine (HCo.out _ _ _ _ _ _ _ HN.out).mono ?_
  rintro e w3 ⟨rfl, hb3⟩
  have HB3 := Lib.hid (HB2.out.trans (hb3.mono HB2.out.size))
  replace HO := Lib.hid (HO.out.below HO.out.lt hb3)
  have HP := Lib.hid (HN.out.people.below hb3)
  clear hb3 o0 o1 HB2 HN HCo
  obtain ⟨_, _, ea, ha1, ha2, hcell⟩ := names_at2 HP.out
  cases ea
  have HCp := Lib.hid hcell
  have HU0 := Lib.hid (Below.refl w3.heap.size w3)
  clear hcell
  go_wp2
  go_loopw [7, 8] (fun t7 ti wr => ∃ (i : Nat) (q : Bool), ti = .int .i64 i ∧ t7 = .bool q ∧ i ≤ ds.length ∧ Hid (FarK ds i 0 0 q) ∧ Hid (Below w3.heap.size w3 wr)) (fun _ ti _ => ds.length - (intOf ti).toNat)
  case atStart => exact ⟨0, false, rfl, rfl, by omega, HS0.out, HU0.out⟩
  case round =>
    clear HU0 HS0
    obtain ⟨i, q, rfl, rfl, hi, HQ, HU⟩ := hrel
    obtain ⟨wo, hwo⟩ : ∃ wo, wo = wr := ⟨_, rfl⟩
    rw [← hwo] at HU ⊢
    clear hwo
    by_cases hlt : i < ds.length
    · have hii : (i : Int) < (ds.length : Int) := by omega
      have hi0 : (0 : Int) ≤ (i : Int) := by omega
      obtain ⟨b0, o0, rfl, _, hce⟩ := HD.out (by omega)
      obtain ⟨d, hgi⟩ : ∃ d, ds[i]? = some d := ⟨_, List.getElem?_eq_getElem hlt⟩
      have HCe := Lib.hid hce
      have HGi := Lib.hid (hce i d hgi)
      have HGd := Lib.hid hgi
      have HYd := Lib.hid (HYr.out d (List.mem_of_getElem? hgi))
      clear hce hgi
      go_wp2
      go_loopw [7, 9] (fun t7 ti wr => ∃ (k : Nat) (q : Bool), ti = .int .i64 k ∧ t7 = .bool q ∧ k ≤ ds.length ∧ Hid (FarK ds i k 0 q) ∧ Hid (Below w3.heap.size w3 wr)) (fun _ ti _ => ds.length - (intOf ti).toNat)
      case atStart => exact ⟨0, q, rfl, rfl, by omega, HQ.out, HU.out⟩
      case round =>
        clear HU HQ
        obtain ⟨k, q, rfl, rfl, hk, HQ, HU⟩ := hrel
        obtain ⟨wo, hwo⟩ : ∃ wo, wo = wr := ⟨_, rfl⟩
        rw [← hwo] at HU ⊢
        clear hwo
        by_cases hlk : k < ds.length
        · have hki : (k : Int) < (ds.length : Int) := by omega
          have hk0 : (0 : Int) ≤ (k : Int) := by omega
          obtain ⟨e, hgk⟩ : ∃ e, ds[k]? = some e := ⟨_, List.getElem?_eq_getElem hlk⟩
          have HGk := Lib.hid (HCe.out k e hgk)
          have HGe := Lib.hid hgk
          have HYe := Lib.hid (HYr.out e (List.mem_of_getElem? hgk))
          have HBu := Lib.hid (HB3.out.trans (HU.out.mono HB3.out.size))
          have y1 := below_cell HBu.out HGi.out.2.1
          have y2 := below_cell HBu.out HGk.out.2.1
          clear hgk
          obtain ⟨X, hX⟩ : ∃ X, d.year = X := ⟨_, rfl⟩
          obtain ⟨Y, hY⟩ : ∃ Y, e.year = Y := ⟨_, rfl⟩
          have hx1 := HYd.out
          have hx2 := HYe.out
          rw [hX] at y1 hx1
          rw [hY] at y2 hx2
          have HXv := Lib.hid hX
          have HYv := Lib.hid hY
          have hwr : IntKind.i64.wrap (X - Y) = X - Y := IntWalk.i64_in _ (by omega)
          clear hX hY
          by_cases hfar : X - Y ≤ 90
          · have d1 : decide (X - Y ≤ 90) = true := decide_eq_true hfar
            have HN2 := Lib.hid (HQ.out.near (fun m ⟨d', e', s, h1, h2, _, h4, _⟩ => by
              rw [HGd.out] at h1
              rw [HGe.out] at h2
              cases h1
              cases h2
              rw [HXv.out, HYv.out] at h4
              omega))
            clear hx1 hx2
            go_upto_region 12 with fail
            go_quiet (fail)
            go_wp2
            exact ⟨⟨k + 1, q, by go_num, rfl, by omega, HN2.out, below_drewN HU.out _⟩, by simp [intOf]; omega⟩
          · have d1 : decide (X - Y ≤ 90) = false := decide_eq_false hfar
            have HFr := Lib.hid (show 90 < d.year - e.year by rw [HXv.out, HYv.out]; omega)
            clear hx1 hx2
            go_upto_region 12 with fail
            go_quiet (fail)
            have HU2 := Lib.hid (below_drewN HU.out nq)
            clear y1 y2 hwr d1 hfar HU HBu
            generalize wo.drewN nq = wp at *
            have o0' := (HO.out.below HO.out.lt HU2.out).cell 0 _ rfl
            go_wp2
            clear o0'
            go_loopw [7, 10] (fun t7 ti wr => ∃ (m : Nat) (q : Bool), ti = .int .i64 m ∧ t7 = .bool q ∧ m ≤ (allF ds).length ∧ Hid (FarK ds i k m q) ∧ Hid (Below w3.heap.size w3 wr)) (fun _ ti _ => (allF ds).length - (intOf ti).toNat)
            case atStart => exact ⟨0, q, rfl, rfl, by omega, HQ.out, HU2.out⟩
            case round =>
              clear HU2 HQ
              obtain ⟨m, q, rfl, rfl, hm, HQ, HU⟩ := hrel
              have o0' := (HO.out.below HO.out.lt HU.out).cell 0 _ rfl
              by_cases hlm : m < (allF ds).length
              · have hmi : (m : Int) < ((allF ds).length : Int) := by omega
                have hm0 : (0 : Int) ≤ (m : Int) := by omega
                obtain ⟨b5, o5, rfl, _, hcp⟩ := HCp.out (by omega)
                obtain ⟨s, hgs⟩ : ∃ s, (allF ds)[m]? = some s := ⟨_, List.getElem?_eq_getElem hlm⟩
                have c1 := below_cell HU.out (hcp m s hgs)
                have HBu := Lib.hid (HB3.out.trans (HU.out.mono HB3.out.size))
                obtain ⟨g0, g1, g2, g3, Aw, nw, cw, g4, hsw⟩ := HGi.out
                obtain ⟨f0, f1, f2, f3, Av, nv, cv, f4, hsv⟩ := HGk.out
                replace g2 := below_cell HBu.out g2
                replace g4 := below_cell HBu.out g4
                replace f2 := below_cell HBu.out f2
                replace f4 := below_cell HBu.out f4
                obtain ⟨i1, hi1⟩ : ∃ x, atF d.wit s = x := ⟨_, rfl⟩
                obtain ⟨i2, hi2⟩ : ∃ x, atF e.wit s = x := ⟨_, rfl⟩
                have HA1 := Lib.hid (rAt_left wr (hsw.below HBu.out) hi1)
                have HA2 := Lib.hid (rAt_left wr (hsv.below HBu.out) hi2)
                have ht1 : takesB d s = (decide (d.sealer = s) || decide (0 ≤ i1)) := by
                  unfold takesB
                  congr 1
                  rw [Bool.eq_iff_iff, memB_iff, decide_eq_true_iff, ← hi1]
                  have := atF_neg (l := d.wit) (s := s)
                  exact ⟨fun z => Classical.byContradiction fun y => this.1 (by omega) z, fun z => Classical.byContradiction fun y => by have := this.2 y; omega⟩
                have ht2 : takesB e s = (decide (e.sealer = s) || decide (0 ≤ i2)) := by
                  unfold takesB
                  congr 1
                  rw [Bool.eq_iff_iff, memB_iff, decide_eq_true_iff, ← hi2]
                  have := atF_neg (l := e.wit) (s := s)
                  exact ⟨fun z => Classical.byContradiction fun y => this.1 (by omega) z, fun z => Classical.byContradiction fun y => by have := this.2 y; omega⟩
                have HSt := Lib.hid (fun (p : Bool) (hp : p = (takesB d s && takesB e s)) => HQ.out.step (p := p) (by
                  rw [hp, Bool.and_eq_true]
                  exact ⟨fun z => ⟨d, e, s, HGd.out, HGe.out, hgs, HFr.out, z.1, z.2⟩, fun ⟨d', e', s', h1, h2, h3, _, h5, h6⟩ => by
                    rw [HGd.out] at h1
                    rw [HGe.out] at h2
                    rw [hgs] at h3
                    cases h1
                    cases h2
                    cases h3
                    exact ⟨h5, h6⟩⟩))
                rw [ht1, ht2] at HSt
                clear g0 g1 g3 f0 f1 f3 hsw hsv hi1 hi2 ht1 ht2 hcp hgs
                generalize d.sealer = x1 at *
                generalize e.sealer = x2 at *
                cases q with
                | true =>
                  have HN2 := Lib.hid (show FarK ds i k (m + 1) true from by have := HSt.out _ rfl; rwa [Bool.true_or] at this)
                  clear HSt
                  go_wp2
                  exact ⟨⟨m + 1, true, by go_num, rfl, by omega, HN2.out, HU.out⟩, by simp [intOf]; omega⟩
                | false =>
                  have HSt := Lib.hid (fun p hp => show FarK ds i k (m + 1) p from by have := HSt.out p hp; rwa [Bool.false_or] at this)
                  by_cases hx1 : x1 = s
                  · have b1 : (x1.toList == s.toList) = true := by rw [hx1]; simp
                    have t1 : (decide (x1 = s) || decide (0 ≤ i1)) = true := by rw [decide_eq_true hx1]; rfl
                    clear hx1
                    by_cases hx2 : x2 = s
                    · have b2 : (x2.toList == s.toList) = true := by rw [hx2]; simp
                      have t2 : (decide (x2 = s) || decide (0 ≤ i2)) = true := by rw [decide_eq_true hx2]; rfl
                      clear hx2
                      have HN2 := Lib.hid (HSt.out true (by rw [t1, t2]; rfl))
                      clear HSt
                      go_wp2
                      exact ⟨⟨m + 1, true, by go_num, rfl, by omega, HN2.out, HU.out⟩, by simp [intOf]; omega⟩
                    · have b2 : (x2.toList == s.toList) = false := by rw [Bool.eq_false_iff]; intro z; exact hx2 ((Lib.bytes_beq_iff _ _).1 z)
                      by_cases hm2 : 0 ≤ i2
                      · have m2 : decide (0 ≤ i2) = true := decide_eq_true hm2
                        have t2 : (decide (x2 = s) || decide (0 ≤ i2)) = true := by rw [m2, Bool.or_true]
                        clear hx2
                        have HN2 := Lib.hid (HSt.out true (by rw [t1, t2]; rfl))
                        clear HSt
                        go_wp2_with fail
                        refine HA2.out.mono ?_
                        rintro e wz ⟨rfl, rfl⟩
                        go_wp2
                        exact ⟨⟨m + 1, true, by go_num, rfl, by omega, HN2.out, HU.out⟩, by simp [intOf]; omega⟩
                      · have m2 : decide (0 ≤ i2) = false := decide_eq_false hm2
                        have t2 : (decide (x2 = s) || decide (0 ≤ i2)) = false := by rw [m2, decide_eq_false hx2]; rfl
                        clear hx2
                        have HN2 := Lib.hid (HSt.out false (by rw [t1, t2]; rfl))
                        clear HSt
                        go_wp2_with fail
                        refine HA2.out.mono ?_
                        rintro e wz ⟨rfl, rfl⟩
                        go_wp2
                        exact ⟨⟨m + 1, false, by go_num, rfl, by omega, HN2.out, HU.out⟩, by simp [intOf]; omega⟩
                  · have b1 : (x1.toList == s.toList) = false := by rw [Bool.eq_false_iff]; intro z; exact hx1 ((Lib.bytes_beq_iff _ _).1 z)
                    by_cases hm1 : 0 ≤ i1
                    · have m1 : decide (0 ≤ i1) = true := decide_eq_true hm1
                      have t1 : (decide (x1 = s) || decide (0 ≤ i1)) = true := by rw [m1, Bool.or_true]
                      clear hx1
                      by_cases hx2 : x2 = s
                      · have b2 : (x2.toList == s.toList) = true := by rw [hx2]; simp
                        have t2 : (decide (x2 = s) || decide (0 ≤ i2)) = true := by rw [decide_eq_true hx2]; rfl
                        clear hx2
                        have HN2 := Lib.hid (HSt.out true (by rw [t1, t2]; rfl))
                        clear HSt
                        go_wp2_with fail
                        refine HA1.out.mono ?_
                        rintro e wz ⟨rfl, rfl⟩
                        go_wp2
                        exact ⟨⟨m + 1, true, by go_num, rfl, by omega, HN2.out, HU.out⟩, by simp [intOf]; omega⟩
                      · have b2 : (x2.toList == s.toList) = false := by rw [Bool.eq_false_iff]; intro z; exact hx2 ((Lib.bytes_beq_iff _ _).1 z)
                        by_cases hm2 : 0 ≤ i2
                        · have m2 : decide (0 ≤ i2) = true := decide_eq_true hm2
                          have t2 : (decide (x2 = s) || decide (0 ≤ i2)) = true := by rw [m2, Bool.or_true]
                          clear hx2
                          have HN2 := Lib.hid (HSt.out true (by rw [t1, t2]; rfl))
                          clear HSt
                          go_wp2_with fail
                          refine HA1.out.mono ?_
                          rintro e wz ⟨rfl, rfl⟩
                          go_wp2_with fail
                          refine HA2.out.mono ?_
                          rintro e wz ⟨rfl, rfl⟩
                          go_wp2
                          exact ⟨⟨m + 1, true, by go_num, rfl, by omega, HN2.out, HU.out⟩, by simp [intOf]; omega⟩
                        · have m2 : decide (0 ≤ i2) = false := decide_eq_false hm2
                          have t2 : (decide (x2 = s) || decide (0 ≤ i2)) = false := by rw [m2, decide_eq_false hx2]; rfl
                          clear hx2
                          have HN2 := Lib.hid (HSt.out false (by rw [t1, t2]; rfl))
                          clear HSt
                          go_wp2_with fail
                          refine HA1.out.mono ?_
                          rintro e wz ⟨rfl, rfl⟩
                          go_wp2_with fail
                          refine HA2.out.mono ?_
                          rintro e wz ⟨rfl, rfl⟩
                          go_wp2
                          exact ⟨⟨m + 1, false, by go_num, rfl, by omega, HN2.out, HU.out⟩, by simp [intOf]; omega⟩
                    · have m1 : decide (0 ≤ i1) = false := decide_eq_false hm1
                      have t1 : (decide (x1 = s) || decide (0 ≤ i1)) = false := by rw [m1, decide_eq_false hx1]; rfl
                      clear hx1
                      have HN2 := Lib.hid (HSt.out false (by rw [t1]; simp))
                      clear HSt
                      go_wp2_with fail
                      refine HA1.out.mono ?_
                      rintro e wz ⟨rfl, rfl⟩
                      go_wp2
                      exact ⟨⟨m + 1, false, by go_num, rfl, by omega, HN2.out, HU.out⟩, by simp [intOf]; omega⟩
              · have HN2 := Lib.hid (HQ.out.nextK (by omega))
                go_wp2
                exact ⟨⟨k + 1, q, by go_num, rfl, by omega, HN2.out, HU.out⟩, by simp [intOf]; omega⟩
        · have HN2 := Lib.hid (HQ.out.nextI (by omega))
          go_wp2
          exact ⟨⟨i + 1, q, by go_num, rfl, by omega, HN2.out, HU.out⟩, by simp [intOf]; omega⟩
    · have HE := Lib.hid (HQ.out.all (by omega))
      have HBu := Lib.hid (HB3.out.trans (HU.out.mono HB3.out.size))
      have hsq : sv = !q := by
        have h1 := HSo.out
        have h2 := HE.out
        cases sv <;> cases q <;> simp_all
      subst hsq
      have n1 : ((!q) == !q) = true := by simp
      clear HE HQ HU
      go_wp2_with fail
      refine (HWk.out _ HBu.out).mono ?_
      rintro e wz ⟨rfl, hbz⟩
      have HBz := Lib.hid (HBu.out.trans (hbz.mono HBu.out.size))
      clear hbz
      go_wp2
      go_ret
      exact ⟨rfl, HBz.out⟩
theorem deedsLive_all (v : Value) (ds : List De) (w : World) (h : DeedsV w v ds) (hs : ShortDs ds) (hz : Zw w) :
    Calls Tryz.prog 7 #[v] w fun e w' => e = .returned (.bool true) ∧ Below w.heap.size w w' := by
  obtain ⟨A, c, rfl, h⟩ := h.shape
  rcases checkDF_cases ds with hc | hc | hc
  · exact deedsLive_bad A c ds w h hs hz 3 (.inl rfl) (by unfold fromD; rw [hc, if_pos (by decide)])
  · exact deedsLive_bad A c ds w h hs hz 102 (.inr rfl) (by unfold fromD; rw [hc, if_pos (by decide)])
  · by_cases hq : 24 < (allF ds).length ∨ 48 < (factsD ds).length
    · exact deedsLive_bad A c ds w h hs hz 3 (.inl rfl) (by unfold fromD; rw [hc, if_neg (by decide), if_pos hq])
    · exact deedsLive_good A c ds w h hs hz hc (by omega) (by omega)
end Go.Proofs.YtdmcopjbckelmaaGreatDoor
