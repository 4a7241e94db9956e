/- Walks of the package people: Without. Conditions: those stated. -/
import Derived.Test.YtdmcopjbckelmaaGreatDoorZB1
import Derived.Test.YtdmcopjbckelmaaGreatDoorZF1
import Derived.Test.YtdmcopjbckelmaaGreatDoorZG3
namespace Go.Proofs.YtdmcopjbckelmaaGreatDoor
open Go Go.RowKit Go.Shelf
attribute [local go_sem] Oper.semAt_some

theorem ints_get (l : List Int) (j : Nat) (hj : j < l.length) : (l.map (Value.int .i64))[j]? = some (.int .i64 (l.getD j 0)) := by
  rw [List.getElem?_map, List.getD_eq_getElem?_getD, List.getElem?_eq_getElem hj]
  rfl
theorem containsI_any (v : Value) (l : List Int) (x : Int) (w : World) (h : Sl w 1 v (l.map (Value.int .i64))) :
    Calls Tryz.prog 79 #[v, .int .i64 x] w fun e w' => e = .returned (.bool (l.contains x)) ∧ w' = w := by
  obtain ⟨A, n, c, rfl, hl, hc, hm, hcl⟩ := h.open2 (by decide)
  have hn : n = l.length := by rw [List.length_map] at hl; omega
  subst hn
  by_cases h0 : 0 < l.length
  · obtain ⟨b, o, rfl, hb, hce⟩ := hcl h0
    refine (Tryz.slices_Contains_int b o l.length c l x w (Nat.le_refl _) (by omega) (fun j hj => hce j _ (ints_get l j hj))).mono ?_
    rintro e w' ⟨rfl, rfl⟩
    exact ⟨by rw [List.take_length], rfl⟩
  · have e0 : l = [] := List.length_eq_zero_iff.1 (by omega)
    subst e0
    refine (Tryz.slices_Contains_int_empty A c x w).mono ?_
    rintro e w' ⟨rfl, rfl⟩
    exact ⟨rfl, rfl⟩
theorem cloneS (v : Value) (l : List ByteArray) (w : World) (hv : Sl w 1 v (namesV l)) (hl : l.length ≤ 1000) :
    Calls Tryz.prog 78 #[v] w fun e w' => ∃ v', e = .returned v' ∧ w'.ownsRow w.heap.size 9 1 v' l.length (namesV l) ∧ Below w.heap.size w w' := by
  obtain ⟨A, n, c, rfl, hn, _, _, hcl⟩ := hv.open2 (by decide)
  rw [namesV_length] at hn
  obtain rfl : n = l.length := by omega
  rcases Nat.eq_zero_or_pos l.length with h0 | h0
  · obtain rfl : l = [] := List.length_eq_zero_iff.1 h0
    cases A with
    | none =>
      refine (Tryz.slices_Clone_string_nil _ c w).mono ?_
      rintro e w' ⟨rfl, rfl⟩
      exact ⟨_, rfl, World.ownsRow_nil _ _ _ _, Below.refl _ _⟩
    | some a =>
      refine (Tryz.slices_Clone_string_zero a c w).mono ?_
      rintro e w' ⟨v', rfl, ho, _, hb⟩
      exact ⟨v', rfl, ho, hb⟩
  · obtain ⟨b, o, rfl, _, hce⟩ := hcl h0
    refine (Tryz.slices_Clone_string b o l.length c l w (Nat.le_refl _) (by omega) (names_cells hce)).mono ?_
    rintro e w' ⟨v', rfl, ho, _, hb⟩
    rw [List.take_length] at ho
    exact ⟨v', rfl, ho, hb⟩
/-- The indices of facts that stay. -/
def outL (n : Nat) (l : List Int) : List Nat := (List.range n).filter fun i => !l.contains (i : Int)
theorem outL_succ (n : Nat) (l : List Int) : outL (n + 1) l = outL n l ++ (if l.contains (n : Int) then [] else [n]) := by
  unfold outL
  rw [List.range_succ, List.filter_append]
  congr 1
  by_cases h : l.contains (n : Int) = true
  · rw [if_pos h, List.filter_cons, if_neg (by rw [h]; decide)]; rfl
  · rw [if_neg h, List.filter_cons, if_pos (by rw [Bool.not_eq_true] at h; rw [h]; rfl)]; rfl
theorem outL_len (n : Nat) (l : List Int) : (outL n l).length ≤ n := Nat.le_trans (List.length_filter_le _ _) (by simp)
def okI (fs : List Fa) (l : List Int) : Bool := (List.range l.length).all (goesB fs l)
/-- What Without answers. -/
def woV (ps : List ByteArray) (fs : List Fa) (l : List Int) : List ByteArray × List Fa × Int :=
  if checkF ps fs ≠ 0 then ([], [], checkF ps fs) else if okI fs l then (ps, selF fs (outL fs.length l), 0) else ([], [], 8)
theorem okI_no {fs : List Fa} {l : List Int} {k : Nat} (hk : k < l.length) (h : goesB fs l k = false) : okI fs l = false := by
  unfold okI
  rw [List.all_eq_false]
  exact ⟨k, List.mem_range.2 hk, by rw [h]; decide⟩
theorem okI_yes {fs : List Fa} {l : List Int} (h : ∀ k, k < l.length → goesB fs l k = true) : okI fs l = true := by
  unfold okI
  rw [List.all_eq_true]
  exact fun k hk => h k (List.mem_range.1 hk)
set_option maxRecDepth 100000 in
set_option maxHeartbeats 8000000 in
theorem without_bad (r : Int) (hr : r = 3 ∨ r = 100) (A : Option Addr) (c : Nat) (F : Option Addr) (d : Nat) (ps : List ByteArray) (fs : List Fa) (v : Value) (l : List Int) (w : World) (h : NetC w A ps.length c F fs.length d ps fs) (hs : Short ps) (hv : Sl w 1 v (l.map (Value.int .i64))) (hc : checkF ps fs = r) :
    Calls Tryz.prog 27 #[.agg #[.slice A ps.length c, .slice F fs.length d], v] w (MergeP ([], [], r) w) := by
  have hb0 := (below_alloc' w (.cells #[.slice A ps.length c, .slice F fs.length d] 25)).alloc (by simp) (.cells #[.slice none 0 0, .slice none 0 0] 25)
  have y0 := (Cel.new w 25 #[.slice A ps.length c, .slice F fs.length d]).alloc (.cells #[.slice none 0 0, .slice none 0 0] 25)
  have y1 := Cel.new (w.alloc (.cells #[.slice A ps.length c, .slice F fs.length d] 25)) 25 #[.slice none 0 0, .slice none 0 0]
  rw [World.size_alloc] at y1
  have HK := Lib.hid (check_is hc _ (h.below hb0) hs)
  obtain ⟨Al, nl, cl, rfl, _⟩ := hv.shape
  clear h hs hv hc y0
  rcases hr with rfl | rfl
  all_goals
    go_enter Tryz.func27, Tryz.ntmps27
    go_wp2_with fail
    refine HK.out.mono ?_
    rintro e w1 ⟨rfl, hb1⟩
    have HB := Lib.hid (hb0.trans (hb1.mono hb0.size))
    have HR := Lib.hid (y1.below y1.lt hb1)
    clear hb0 hb1 y1 HK
    have q0 := HR.out.frozen 0
    have q1 := HR.out.frozen 1
    have q2 := HR.out.cell 0 _ rfl
    have q3 := HR.out.cell 1 _ rfl
    go_wp2
    have kk := HR.out.set2 (.slice none 0 0) (.slice none 0 0)
    have k0 := kk.cell 0 _ rfl
    have k1' := kk.cell 1 _ rfl
    have HEn := Lib.hid ((HB.out.setCell (p := ⟨(w.heap.size + 1), 0, none⟩) (by simp) (.slice none 0 0)).setCell (p := ⟨(w.heap.size + 1), 1, none⟩) (by simp) (.slice none 0 0))
    clear kk
    first
    | exact bodyPost_ret (v := .tuple #[.agg #[.slice none 0 0, .slice none 0 0], .int .i64 3]) (by simp [results, Tryz.results27, go_sem, k0, k1']) rfl ⟨HEn.out, _, _, _, _, _, _, rfl, net_nil _⟩
    | exact bodyPost_ret (v := .tuple #[.agg #[.slice none 0 0, .slice none 0 0], .int .i64 100]) (by simp [results, Tryz.results27, go_sem, k0, k1']) rfl ⟨HEn.out, _, _, _, _, _, _, rfl, net_nil _⟩
set_option maxRecDepth 100000 in
set_option maxHeartbeats 8000000 in
theorem without_good (A : Option Addr) (c : Nat) (F : Option Addr) (d : Nat) (ps : List ByteArray) (fs : List Fa) (v : Value) (l : List Int) (w : World) (h : NetC w A ps.length c F fs.length d ps fs) (hs : Short ps) (hv : Sl w 1 v (l.map (Value.int .i64))) (hc : checkF ps fs = 0) (hp : ps.length ≤ 24) (hfew : fs.length ≤ 48) (r : List ByteArray × List Fa × Int) (hr1 : okI fs l = false → r = ([], [], 8)) (hr2 : okI fs l = true → r = (ps, selF fs (outL fs.length l), 0)) :
    Calls Tryz.prog 27 #[.agg #[.slice A ps.length c, .slice F fs.length d], v] w (MergeP r w) := by
  have hb0 := (below_alloc' w (.cells #[.slice A ps.length c, .slice F fs.length d] 25)).alloc (by simp) (.cells #[.slice none 0 0, .slice none 0 0] 25)
  have y0 := (Cel.new w 25 #[.slice A ps.length c, .slice F fs.length d]).alloc (.cells #[.slice none 0 0, .slice none 0 0] 25)
  have y1 := Cel.new (w.alloc (.cells #[.slice A ps.length c, .slice F fs.length d] 25)) 25 #[.slice none 0 0, .slice none 0 0]
  rw [World.size_alloc] at y1
  have HK := Lib.hid (check_is hc _ (h.below hb0) hs)
  obtain ⟨_, _, _, hd1, _, hd2⟩ := h.many
  obtain ⟨Al, cl, ev, hcl, hclm, _⟩ := hv.open1
  rw [List.length_map] at ev hcl
  subst ev
  have HN := Lib.hid h
  have HV := Lib.hid hv
  have HC := Lib.hid (fun w' h' => cloneS (.slice A ps.length c) ps w' h' (by omega))
  have H1 := Lib.hid hr1
  have H2 := Lib.hid hr2
  clear h hs hv hc hr1 hr2
  go_enter Tryz.func27, Tryz.ntmps27
  go_wp2_with fail
  refine HK.out.mono ?_
  rintro e w1 ⟨rfl, hb1⟩
  have HB := Lib.hid (hb0.trans (hb1.mono hb0.size))
  have HY := Lib.hid (y0.below y0.lt hb1)
  have HR := Lib.hid (y1.below y1.lt hb1)
  have HSz := Lib.hid (show w.heap.size + 1 + 1 ≤ w1.heap.size by have := y1.lt; have := hb1.size; omega)
  have z1 := HY.out.cell 1 (.slice F fs.length d) rfl
  clear hb0 hb1 y0 y1 HK
  go_wp2
  go_loop [20] (fun ti => ∃ k : Nat, ti = .int .i64 k ∧ k ≤ l.length ∧ Hid (∀ j, j < k → goesB fs l j = true)) (fun ti => l.length - (intOf ti).toNat)
  case atStart => exact ⟨0, rfl, by omega, fun j hj => absurd hj (Nat.not_lt_zero _)⟩
  case round =>
    obtain ⟨k, rfl, hk, HO⟩ := hrel
    by_cases hlt : k < l.length
    · have hki : (k : Int) < (l.length : Int) := by omega
      obtain ⟨_, _, _, e, _, _, _, hcl2⟩ := HV.out.open2 (by decide)
      cases e
      obtain ⟨bl, ol, e, _, hce⟩ := hcl2 (by omega)
      subst e
      obtain ⟨z, hz⟩ : ∃ z : Int, l[k]? = some z := ⟨_, List.getElem?_eq_getElem hlt⟩
      have hzd : l.getD k 0 = z := by rw [List.getD_eq_getElem?_getD, hz]; rfl
      have d1 := below_cell HB.out (hce k (.int .i64 z) (by rw [List.getElem?_map, hz]; rfl))
      have HCe := Lib.hid (fun K u hu => below_cell HB.out (hce K u hu))
      clear hce
      cases hg : goesB fs l k with
      | false =>
        have hr := Lib.hid (H1.out (okI_no hlt hg))
        unfold goesB at hg
        rw [hzd] at hg
        by_cases c1 : z < 0
        · clear hg hz hzd
          have q0 := HR.out.frozen 0
          have q1 := HR.out.frozen 1
          have q2 := HR.out.cell 0 _ rfl
          have q3 := HR.out.cell 1 _ rfl
          go_wp2
          have kk := HR.out.set2 (.slice none 0 0) (.slice none 0 0)
          have k0 := kk.cell 0 _ rfl
          have k1' := kk.cell 1 _ rfl
          have HEn := Lib.hid ((HB.out.setCell (p := ⟨(w.heap.size + 1), 0, none⟩) (by simp) (.slice none 0 0)).setCell (p := ⟨(w.heap.size + 1), 1, none⟩) (by simp) (.slice none 0 0))
          clear kk
          exact bodyPost_ret (v := .tuple #[.agg #[.slice none 0 0, .slice none 0 0], .int .i64 8]) (by simp [results, Tryz.results27, go_sem, k0, k1']) rfl ⟨HEn.out, _, _, _, _, _, _, by rw [hr.out], by rw [hr.out]; exact net_nil _⟩
        · by_cases c2 : (fs.length : Int) ≤ z
          · clear hg hz hzd
            have q0 := HR.out.frozen 0
            have q1 := HR.out.frozen 1
            have q2 := HR.out.cell 0 _ rfl
            have q3 := HR.out.cell 1 _ rfl
            go_wp2
            have kk := HR.out.set2 (.slice none 0 0) (.slice none 0 0)
            have k0 := kk.cell 0 _ rfl
            have k1' := kk.cell 1 _ rfl
            have HEn := Lib.hid ((HB.out.setCell (p := ⟨(w.heap.size + 1), 0, none⟩) (by simp) (.slice none 0 0)).setCell (p := ⟨(w.heap.size + 1), 1, none⟩) (by simp) (.slice none 0 0))
            clear kk
            exact bodyPost_ret (v := .tuple #[.agg #[.slice none 0 0, .slice none 0 0], .int .i64 8]) (by simp [results, Tryz.results27, go_sem, k0, k1']) rfl ⟨HEn.out, _, _, _, _, _, _, by rw [hr.out], by rw [hr.out]; exact net_nil _⟩
          · rcases Nat.eq_zero_or_pos k with hk0 | hk0
            · exfalso
              rw [decide_eq_true (show 0 ≤ z by omega), decide_eq_true (show z < (fs.length : Int) by omega), decide_eq_true hk0] at hg
              cases hg
            · obtain ⟨K, hK⟩ : ∃ K, k = K + 1 := ⟨k - 1, by omega⟩
              obtain ⟨zz, hz1⟩ : ∃ zz : Int, l[K]? = some zz := ⟨_, List.getElem?_eq_getElem (by omega)⟩
              have hz2 : ¬ zz < z := by
                intro q
                rw [decide_eq_true (show 0 ≤ z by omega), decide_eq_true (show z < (fs.length : Int) by omega), decide_eq_false (show ¬ k = 0 by omega), hK, Nat.add_sub_cancel, List.getD_eq_getElem?_getD, hz1] at hg
                simp at hg
                omega
              have dK := HCe.out K (.int .i64 zz) (by rw [List.getElem?_map, hz1]; rfl)
              have hwk : IntKind.i64.wrap ((k : Int) - 1) = (K : Int) := by rw [IntWalk.i64_in _ (by omega)]; omega
              have hKl : (K : Int) < (l.length : Int) := by omega
              have hK0 : (0 : Int) ≤ (K : Int) := by omega
              have hki0 : (0 : Int) < (k : Int) := by omega
              have n4 : decide (z ≤ zz) = true := decide_eq_true (by omega)
              clear hK hz1 hz2 hg hz hzd
              have q0 := HR.out.frozen 0
              have q1 := HR.out.frozen 1
              have q2 := HR.out.cell 0 _ rfl
              have q3 := HR.out.cell 1 _ rfl
              go_wp2
              have kk := HR.out.set2 (.slice none 0 0) (.slice none 0 0)
              have k0 := kk.cell 0 _ rfl
              have k1' := kk.cell 1 _ rfl
              have HEn := Lib.hid ((HB.out.setCell (p := ⟨(w.heap.size + 1), 0, none⟩) (by simp) (.slice none 0 0)).setCell (p := ⟨(w.heap.size + 1), 1, none⟩) (by simp) (.slice none 0 0))
              clear kk
              exact bodyPost_ret (v := .tuple #[.agg #[.slice none 0 0, .slice none 0 0], .int .i64 8]) (by simp [results, Tryz.results27, go_sem, k0, k1']) rfl ⟨HEn.out, _, _, _, _, _, _, by rw [hr.out], by rw [hr.out]; exact net_nil _⟩
      | true =>
        have HG := Lib.hid hg
        unfold goesB at hg
        rw [hzd] at hg
        simp only [Bool.and_eq_true, Bool.or_eq_true, decide_eq_true_eq] at hg
        obtain ⟨⟨c1, c2⟩, c3⟩ := hg
        have c1' : ¬ z < 0 := by omega
        have c2' : ¬ (fs.length : Int) ≤ z := by omega
        rcases Nat.eq_zero_or_pos k with hk0 | hk0
        · have hki0 : ¬ (0 : Int) < (k : Int) := by omega
          clear hz hzd c3 hk0
          go_wp2
          refine ⟨⟨k + 1, by go_num, by omega, fun j hj => ?_⟩, by simp [intOf]; omega⟩
          rcases Nat.lt_succ_iff_lt_or_eq.1 hj with e | e
          · exact HO.out j e
          · rw [e]; exact HG.out
        · obtain ⟨K, hK⟩ : ∃ K, k = K + 1 := ⟨k - 1, by omega⟩
          obtain ⟨zz, hz1⟩ : ∃ zz : Int, l[K]? = some zz := ⟨_, List.getElem?_eq_getElem (by omega)⟩
          have hz2 : zz < z := by
            rw [hK, Nat.add_sub_cancel, List.getD_eq_getElem?_getD, hz1] at c3
            simp only [Option.getD_some] at c3
            omega
          have dK := HCe.out K (.int .i64 zz) (by rw [List.getElem?_map, hz1]; rfl)
          have hwk : IntKind.i64.wrap ((k : Int) - 1) = (K : Int) := by rw [IntWalk.i64_in _ (by omega)]; omega
          have hKl : (K : Int) < (l.length : Int) := by omega
          have hK0 : (0 : Int) ≤ (K : Int) := by omega
          have hki0 : (0 : Int) < (k : Int) := by omega
          have n4 : ¬ z ≤ zz := by omega
          clear hK hz1 hz hzd c3
          go_wp2
          refine ⟨⟨k + 1, by go_num, by omega, fun j hj => ?_⟩, by simp [intOf]; omega⟩
          rcases Nat.lt_succ_iff_lt_or_eq.1 hj with e | e
          · exact HO.out j e
          · rw [e]; exact HG.out
    · have hr := Lib.hid (H2.out (okI_yes (fun j hj => HO.out j (by omega))))
      have z0 := HY.out.cell 0 _ rfl
      clear z1 HO
      go_wp2_with fail
      refine (HC.out _ (HN.out.people.below HB.out)).mono ?_
      rintro e w2 ⟨v2, rfl, ho2, hb2⟩
      obtain ⟨A2, c2, rfl, _⟩ := own_slice ho2
      have HP2 := Lib.hid (Sl.of_own ho2)
      have HB2 := Lib.hid (HB.out.trans (hb2.mono HB.out.size))
      replace HY := Lib.hid (HY.out.below HY.out.lt hb2)
      replace HR := Lib.hid (HR.out.below HR.out.lt hb2)
      have HSz2 := Lib.hid (show w.heap.size + 1 + 1 ≤ w2.heap.size by have := HSz.out; have := hb2.size; omega)
      have l0 := (Cel.new w2 25 #[.slice none 0 0, .slice none 0 0]).cell 0 _ rfl
      have l1 := (Cel.new w2 25 #[.slice none 0 0, .slice none 0 0]).cell 1 _ rfl
      have l2 := (Cel.new w2 25 #[.slice none 0 0, .slice none 0 0]).frozen 0
      have l3 := (Cel.new w2 25 #[.slice none 0 0, .slice none 0 0]).frozen 1
      clear hb2 ho2 z0 HB HSz
      go_upto_region 11 with fail
      clear l0 l1 l2 l3
      have HO0 := Lib.hid (Cel.new w2 25 #[.slice A2 ps.length c2, .slice none 0 0])
      have hb3 := below_alloc' w2 (.cells #[.slice A2 ps.length c2, .slice none 0 0] 25)
      have hlt3 : w2.heap.size < (w2.alloc (.cells #[.slice A2 ps.length c2, .slice none 0 0] 25)).heap.size := by simp
      generalize w2.alloc (.cells #[.slice A2 ps.length c2, .slice none 0 0] 25) = w3 at *
      obtain ⟨Bo, hBo⟩ : ∃ Bo, w2.heap.size = Bo := ⟨_, rfl⟩
      have HB3 := Lib.hid (HB2.out.trans (hb3.mono HB2.out.size))
      replace HY := Lib.hid (HY.out.below HY.out.lt hb3)
      replace HR := Lib.hid (HR.out.below HR.out.lt hb3)
      have HD0 := Lib.hid hb3
      rw [hBo] at HO0 hlt3 ⊢
      have HBo := Lib.hid (show w.heap.size + 1 + 1 ≤ Bo by have := HSz2.out; omega)
      have HBe := Lib.hid hBo
      clear hb3 hBo HB2 HSz2
      have z1 := HY.out.cell 1 (.slice F fs.length d) rfl
      go_wp2
      clear z1
      go_loopw [56] (fun ti wr => ∃ (k : Nat) (vb : Value), ti = .int .i64 k ∧ k ≤ fs.length ∧ Hid (Cel wr Bo 25 #[.slice A2 ps.length c2, vb]) ∧ Hid (wr.ownsRow (Bo + 1) 76 4 vb (outL k l).length (fasV (selF fs (outL k l)))) ∧ Hid (Cel wr w.heap.size 25 #[.slice A ps.length c, .slice F fs.length d]) ∧ Hid (Cel wr (w.heap.size + 1) 25 #[.slice none 0 0, .slice none 0 0]) ∧ Hid (Below w2.heap.size w2 wr) ∧ Hid (Below w.heap.size w wr)) (fun ti _ => fs.length - (intOf ti).toNat)
      case atStart => exact ⟨0, _, rfl, by omega, HO0.out, World.ownsRow_nil _ _ _ _, HY.out, HR.out, HD0.out, HB3.out⟩
      case round =>
        clear HO0 HY HR HD0 HB3 hlt3
        obtain ⟨k, vb, rfl, hk, HO, HW, HY, HR, HP, HB⟩ := hrel
        obtain ⟨Ab, cb, rfl, _⟩ := own_shape HW.out
        by_cases hlt : k < fs.length
        · have hki : (k : Int) < (fs.length : Int) := by omega
          obtain ⟨bF, oF, rfl, _, hcF⟩ := HN.out.fact (by omega)
          have hfj : fs[k]? = some fs[k] := List.getElem?_eq_getElem hlt
          obtain ⟨g1, g2, g3, g4⟩ := hcF k _ hfj
          replace g1 := below_cell HB.out g1
          replace g2 := below_cell HB.out g2
          replace g3 := below_cell HB.out g3
          replace g4 := below_cell HB.out g4
          have HS := Lib.hid (outL_succ k l)
          have HLn := Lib.hid (outL_len k l)
          have HF := Lib.hid (show fasV (selF fs [k]) = faV fs[k] by
            unfold selF
            rw [List.map_cons, List.map_nil, List.getD_eq_getElem?_getD, hfj]
            simp [fasV])
          have HK := Lib.hid (fun w' (hw : Below w.heap.size w w') => containsI_any (.slice Al l.length cl) l (k : Int) w' (HV.out.below hw))
          clear hcF hfj
          generalize fs[k] = f at *
          obtain ⟨fk, fa, fb, ft⟩ := f
          simp only at g1 g2 g3 g4
          unfold faV at HF
          simp only at HF
          have hLt := HO.out.lt
          go_wp2_with fail
          have HOa := Lib.hid (HO.out.alloc (.cells #[.int .i64 fk, .string fa, .string fb, .int .i64 ft] 76))
          have HWa := Lib.hid (HW.out.alloc (.cells #[.int .i64 fk, .string fa, .string fb, .int .i64 ft] 76))
          have HYa := Lib.hid (HY.out.alloc (.cells #[.int .i64 fk, .string fa, .string fb, .int .i64 ft] 76))
          have HRa := Lib.hid (HR.out.alloc (.cells #[.int .i64 fk, .string fa, .string fb, .int .i64 ft] 76))
          have HBa := Lib.hid (HB.out.alloc HB.out.size (.cells #[.int .i64 fk, .string fa, .string fb, .int .i64 ft] 76))
          have HPa := Lib.hid (HP.out.alloc HP.out.size (.cells #[.int .i64 fk, .string fa, .string fb, .int .i64 ft] 76))
          have HX := Lib.hid (Cel.new wr 76 #[.int .i64 fk, .string fa, .string fb, .int .i64 ft])
          have hLta : Bo + 1 < (wr.alloc (.cells #[.int .i64 fk, .string fa, .string fb, .int .i64 ft] 76)).heap.size := by simp; omega
          refine (HK.out _ HBa.out).mono ?_
          rintro e w' ⟨rfl, rfl⟩
          generalize wr.alloc (.cells #[.int .i64 fk, .string fa, .string fb, .int .i64 ft] 76) = wa at *
          clear g1 g2 g3 g4 HO HW HY HR HB HP HK hLt
          cases hct : l.contains (k : Int) with
          | true =>
            rw [hct, if_pos rfl, List.append_nil] at HS
            clear hct
            go_wp2
            go_roundw
            case rel => exact ⟨k + 1, .slice Ab (outL k l).length cb, by go_num, by omega, HOa.out, by rw [HS.out]; exact HWa.out, HYa.out, HRa.out, HPa.out, HBa.out⟩
            case measure => simp [intOf]; omega
          | false =>
            rw [hct, if_neg (by decide)] at HS
            clear hct
            have o1 := HOa.out.cell 1 _ rfl
            have x0 := HX.out.cell 0 _ rfl
            have x1 := HX.out.cell 1 _ rfl
            have x2 := HX.out.cell 2 _ rfl
            have x3 := HX.out.cell 3 _ rfl
            go_wp2_with (refine appFact _ _ rfl rfl (by rfl) (by rfl) (HWa.out.alloc (.cells #[.int .i64 fk, .string fa, .string fb, .int .i64 ft] 76)) (Sl.new (s := 4) wa 76 1 1 #[.int .i64 fk, .string fa, .string fb, .int .i64 ft] rfl (Nat.le_refl _) (by decide)) (by simp [Value.oneCell']) (N := (outL k l).length + 1) (by simp; omega) (by have := HLn.out; omega) (by simp; omega) ?_; intro A5 c5 w5 hap; have HBn := Lib.hid (below_of_own hap.grown (HWa.out.alloc (.cells #[.int .i64 fk, .string fa, .string fb, .int .i64 ft] 76)) (HBa.out.alloc HBa.out.size (.cells #[.int .i64 fk, .string fa, .string fb, .int .i64 ft] 76)) (by have := HBo.out; omega)); have HYn := Lib.hid ((HYa.out.alloc (.cells #[.int .i64 fk, .string fa, .string fb, .int .i64 ft] 76)).kept hap.grown (fun e => by have := own_ge HWa.out e.symm; have := HBo.out; omega)); have HOn := Lib.hid ((HOa.out.alloc (.cells #[.int .i64 fk, .string fa, .string fb, .int .i64 ft] 76)).kept hap.grown (fun e => by have := own_ge HWa.out e.symm; omega)); have HRn := Lib.hid ((HRa.out.alloc (.cells #[.int .i64 fk, .string fa, .string fb, .int .i64 ft] 76)).kept hap.grown (fun e => by have := own_ge HWa.out e.symm; have := HBo.out; omega)); have HWn := Lib.hid hap.own; have HPn := Lib.hid (below_of_own hap.grown (HWa.out.alloc (.cells #[.int .i64 fk, .string fa, .string fb, .int .i64 ft] 76)) (HPa.out.alloc HPa.out.size (.cells #[.int .i64 fk, .string fa, .string fb, .int .i64 ft] 76)) (by have := HBe.out; omega)); clear hap; have f1 := HOn.out.frozen 1; have o2 := HOn.out.cell 1 _ rfl)
            go_roundw
            case rel =>
              refine ⟨k + 1, .slice A5 ((outL k l).length + 1) c5, by go_num, by omega, HOn.out.setAt 1 _, ?_, HYn.out.other (p := ⟨Bo, 1, none⟩) (by have := HBo.out; simp; omega) _, HRn.out.other (p := ⟨Bo, 1, none⟩) (by have := HBo.out; simp; omega) _, HPn.out.setCell (p := ⟨Bo, 1, none⟩) (by have := HBe.out; simp; omega) _, HBn.out.setCell (p := ⟨Bo, 1, none⟩) (by have := HBo.out; simp; omega) _⟩
              have e1 : (outL (k + 1) l).length = (outL k l).length + 1 := by rw [HS.out, List.length_append, List.length_singleton]
              have e2 : fasV (selF fs (outL (k + 1) l)) = fasV (selF fs (outL k l)) ++ [.int .i64 fk, .string fa, .string fb, .int .i64 ft] := by
                rw [HS.out]
                unfold selF
                rw [List.map_append]
                unfold fasV
                rw [List.flatMap_append]
                exact congrArg _ HF.out
              show World.ownsRow _ _ _ _ _ _ _
              rw [e1, e2]
              exact own_ne HWn.out (fun e => by have := own_ge HWn.out e; simp at this; omega) _
            case measure => simp [intOf]; omega
        · have hkn : k = fs.length := by omega
          have HKn := Lib.hid hkn
          clear hkn
          have HPe := Lib.hid (HP2.out.below HP.out)
          have o0 := HO.out.cell 0 _ rfl
          have o1 := HO.out.cell 1 _ rfl
          have q0 := HR.out.frozen 0
          have q1 := HR.out.frozen 1
          have q2 := HR.out.cell 0 _ rfl
          have q3 := HR.out.cell 1 _ rfl
          go_wp2
          have kk := HR.out.set2 (.slice A2 ps.length c2) (.slice Ab (outL k l).length cb)
          have k0 := kk.cell 0 _ rfl
          have k1' := kk.cell 1 _ rfl
          clear kk
          have q4 := (HR.out.setAt 0 (.slice A2 ps.length c2)).cell 1 (.slice none 0 0) rfl
          have HSl := Lib.hid (((Sl.of_own HW.out).setCell q2 (fun u hu => fas_plain hu _ _ _) (.slice A2 ps.length c2)).setCell q4 (fun u hu => fas_plain hu _ _ _) (.slice Ab (outL k l).length cb))
          have HSp := Lib.hid ((HPe.out.setCell q2 (fun u hu => nm_plain hu _ _ _) (.slice A2 ps.length c2)).setCell q4 (fun u hu => nm_plain hu _ _ _) (.slice Ab (outL k l).length cb))
          have HBf := Lib.hid ((HB.out.setCell (p := ⟨(w.heap.size + 1), 0, none⟩) (by simp) (.slice A2 ps.length c2)).setCell (p := ⟨(w.heap.size + 1), 1, none⟩) (by simp) (.slice Ab (outL k l).length cb))
          clear q4
          exact bodyPost_ret (v := .tuple #[.agg #[.slice A2 ps.length c2, .slice Ab (outL k l).length cb], .int .i64 0]) (by simp [results, Tryz.results27, go_sem, k0, k1']) rfl ⟨HBf.out, _, _, _, _, _, _, by rw [hr.out], by rw [hr.out, ← HKn.out]; exact ⟨HSp.out, HSl.out⟩⟩
theorem without_any (A : Option Addr) (c : Nat) (F : Option Addr) (d : Nat) (ps : List ByteArray) (fs : List Fa) (v : Value) (l : List Int) (w : World) (h : NetC w A ps.length c F fs.length d ps fs) (hs : Short ps) (hv : Sl w 1 v (l.map (Value.int .i64))) :
    Calls Tryz.prog 27 #[.agg #[.slice A ps.length c, .slice F fs.length d], v] w (MergeP (woV ps fs l) w) := by
  rcases checkF_cases ps fs with hc | hc | ⟨hc, hp, hfew, _, _⟩
  · have := without_bad 3 (.inl rfl) A c F d ps fs v l w h hs hv hc
    unfold woV
    rw [hc, if_pos (by decide)]
    exact this
  · have := without_bad 100 (.inr rfl) A c F d ps fs v l w h hs hv hc
    unfold woV
    rw [hc, if_pos (by decide)]
    exact this
  · refine without_good A c F d ps fs v l w h hs hv hc hp hfew _ (fun q => ?_) (fun q => ?_)
    · unfold woV
      rw [hc, if_neg (by decide), q, if_neg (by decide)]
    · unfold woV
      rw [hc, if_neg (by decide), q, if_pos rfl]
end Go.Proofs.YtdmcopjbckelmaaGreatDoor
