/- Sorting and compacting rows of numbers of the call's own. Conditions: those stated. Walks of the package people: FromDeeds. Conditions: those stated. -/
import Derived.Test.YtdmcopjbckelmaaGreatDoorZU1
import Derived.Test.YtdmcopjbckelmaaGreatDoorZF1
import Derived.Test.YtdmcopjbckelmaaGreatDoorZH
import Derived.Test.YtdmcopjbckelmaaGreatDoorZV2
import Derived.Test.YtdmcopjbckelmaaGreatDoorZG3
import Derived.Test.YtdmcopjbckelmaaGreatDoorZU6
import Derived.Test.YtdmcopjbckelmaaGreatDoorSh
namespace Go.Proofs.YtdmcopjbckelmaaGreatDoor
section
open Go Go.RowKit Go.Shelf Go.Sort
attribute [local go_sem] Oper.semAt_some

theorem compactZ_inc (zs : List Int) (h : zs.Pairwise fun a b => a ≤ b) : IncZ (Lib.compact zs) := by
  unfold Lib.compact
  have key : ∀ m, m ≤ zs.length → IncZ (Lib.compactUpTo zs.toArray m) ∧ ∀ x ∈ Lib.compactUpTo zs.toArray m, ∀ y, zs[m - 1]? = some y → x ≤ y := by
    intro m
    induction m with
    | zero => intro _; simp [Lib.compactUpTo, IncZ]
    | succ m ih =>
      intro hm
      have hm' : m < zs.length := by omega
      obtain ⟨i1, i2⟩ := ih (by omega)
      have eg : zs.toArray[m]! = zs[m] := by simp [hm']
      have up : ∀ x ∈ Lib.compactUpTo zs.toArray m, x ≤ zs[m] := by
        intro x hx
        rcases Nat.eq_zero_or_pos m with e | e
        · subst e; simp [Lib.compactUpTo] at hx
        · have hm1 : m - 1 < zs.length := by omega
          have h1 := i2 x hx zs[m - 1] (List.getElem?_eq_getElem hm1)
          have h2 := (List.pairwise_iff_getElem.1 h) (m - 1) m hm1 hm' (by omega)
          omega
      rw [Lib.compactUpTo_succ]
      by_cases hk : Lib.keeps zs.toArray m = true
      · rw [if_pos hk, eg]
        refine ⟨?_, fun x hx y hy => ?_⟩
        · unfold IncZ
          rw [List.pairwise_append]
          refine ⟨i1, by simp, fun a ha b hb => ?_⟩
          rw [List.mem_singleton] at hb
          subst hb
          rcases Nat.eq_zero_or_pos m with e | e
          · subst e; simp [Lib.compactUpTo] at ha
          · have hm1 : m - 1 < zs.length := by omega
            have h1 := i2 a ha zs[m - 1] (List.getElem?_eq_getElem hm1)
            have h2 := (List.pairwise_iff_getElem.1 h) (m - 1) m hm1 hm' (by omega)
            have hne : zs[m - 1] ≠ zs[m] := by
              intro q
              unfold Lib.keeps at hk
              have eg1 : zs.toArray[m - 1]! = zs[m - 1] := by simp [hm1]
              rw [eg, eg1, q] at hk
              simp at hk
              omega
            omega
        · rw [Nat.add_sub_cancel, List.getElem?_eq_getElem hm'] at hy
          cases hy
          rcases List.mem_append.1 hx with q | q
          · exact up x q
          · rw [List.mem_singleton] at q
            omega
      · rw [if_neg hk, List.append_nil]
        refine ⟨i1, fun x hx y hy => ?_⟩
        rw [Nat.add_sub_cancel, List.getElem?_eq_getElem hm'] at hy
        cases hy
        exact up x hx
  have := (key zs.length (Nat.le_refl _)).1
  exact this
def sortZ (l : List Int) : List Int := l.mergeSort fun x y => decide (x ≤ y)
theorem sortZ_length (l : List Int) : (sortZ l).length = l.length := by simp [sortZ]
theorem sortZ_sorted (l : List Int) : (sortZ l).Pairwise fun a b => a ≤ b := by
  have := List.pairwise_mergeSort (le := fun x y : Int => decide (x ≤ y)) (fun a b c => by simp only [decide_eq_true_eq]; omega) (fun a b => by simp only [Bool.or_eq_true, decide_eq_true_eq]; omega) l
  exact this.imp (by simp)
theorem compact_sortZ (l : List Int) : Lib.compact (sortZ l) = setZ l := by
  refine incZ_ext (compactZ_inc _ (sortZ_sorted l)) (setZ_inc l) fun z => ?_
  rw [mem_compact, mem_setZ]
  unfold sortZ
  exact List.mem_mergeSort
theorem holdsZ {w : World} {g : Nat} {cur : Array Value} {e : TypeId} {zs : List Int} (hb : w.heap[g]? = some (.cells cur e (0, 0))) (ht : cur.toList.take zs.length = zs.map (Value.int .i64)) : Holds (Value.int .i64) w g 0 zs.toArray := by
  intro j hj
  have hj' : j < zs.length := by simpa using hj
  refine ⟨?_, by simp [World.frozen?, hb]⟩
  have h1 : (cur.toList.take zs.length)[j]? = (zs.map (Value.int .i64))[j]? := by rw [ht]
  rw [List.getElem?_take_of_lt hj'] at h1
  simp only [World.cell?, hb, Nat.zero_add]
  simp only [Option.isSome_none, Bool.false_eq_true, if_false]
  rw [← Array.getElem?_toList, h1]
  simp [hj']
theorem heapZ {w : World} {g n : Nat} {os : Array Obj} {cur : Array Value} {e : TypeId} {fr : Nat × Nat} (d : Array Int) (hb : w.heap[g]? = some (.cells cur e fr)) :
    (grow (putRow (Value.int .i64) (Sort.ahead w n) g 0 d) os).heap[g]? = some (.cells (putCells (Value.int .i64) 0 d cur) e fr) := by
  have hg : g < w.heap.size := (Array.getElem?_eq_some_iff.1 hb).1
  rw [heap_grow_old _ _ (by simpa using hg)]
  simp [putRow, mapBlock, Sort.ahead, Array.getElem?_modify, hb, onCells]
theorem grownZ {w : World} {g n : Nat} {os : Array Obj} (d : Array Int) : w.grownBy (grow (putRow (Value.int .i64) (Sort.ahead w n) g 0 d) os) (some g) := by
  refine ⟨rfl, rfl, rfl, by simp, fun k hk hne => ?_⟩
  rw [heap_grow_old _ _ (by simpa using hk)]
  have : g ≠ k := fun e => hne (by rw [e])
  simp [putRow, mapBlock, Sort.ahead, Array.getElem?_modify, this]
theorem takeZ (cur : Array Value) (ts : List Int) (h : ts.length ≤ cur.size) : (putCells (Value.int .i64) 0 ts.toArray cur).toList.take ts.length = ts.map (Value.int .i64) := by
  apply List.ext_getElem?
  intro j
  by_cases hj : j < ts.length
  · rw [List.getElem?_take_of_lt hj, Array.getElem?_toList]
    simp [putCells, hj, show j < cur.size by omega]
  · rw [List.getElem?_take_eq_none (by omega), List.getElem?_eq_none (by simp; omega)]
theorem sortZ_own (base : Nat) (v : Value) (l : List Int) (w : World) (hown : w.ownsRow base 3 1 v l.length (l.map (Value.int .i64))) (hl : l.length ≤ 1048576) :
    Calls Tryz.prog 88 #[v] w fun e w' => e = .returned (.tuple #[]) ∧ w'.ownsRow base 3 1 v l.length ((sortZ l).map (Value.int .i64)) ∧ w.grownBy w' v.ownBlock := by
  obtain ⟨h0, ⟨rfl, hn⟩ | ⟨g, cap, cur, rfl, hg, hh, h1, h2, h3, h4⟩⟩ := hown
  · refine (Tryz.slices_Sort_int_none none 0 w).mono ?_
    rintro e w' ⟨rfl, rfl⟩
    have e0 : l = [] := List.length_eq_zero_iff.1 hn
    subst e0
    rw [show sortZ [] = [] from List.length_eq_zero_iff.1 (sortZ_length [])]
    exact ⟨rfl, World.ownsRow_nil _ _ _ _, World.grownBy.refl _ _⟩
  · have hH := holdsZ (zs := l) hh (by simpa using h4)
    refine (Tryz.slices_Sort_int g 0 cap l w hH (Array.getElem?_eq_some_iff.1 hh).1 (by omega)).mono ?_
    rintro e w' ⟨rfl, n, os, rfl⟩
    refine ⟨rfl, ?_, grownZ _⟩
    have hsl := sortZ_length l
    refine ⟨by simp [hsl], .inr ⟨g, cap, _, rfl, hg, heapZ _ hh, h1, h2, by simp [putCells, h3], ?_⟩⟩
    rw [Nat.mul_one, ← hsl]
    exact takeZ cur (sortZ l) (by omega)
theorem compactZ_own (base : Nat) (v : Value) (l : List Int) (w : World) (hown : w.ownsRow base 3 1 v l.length ((sortZ l).map (Value.int .i64))) (hl : l.length ≤ 1048576) :
    Calls Tryz.prog 89 #[v] w fun e w' => ∃ v', e = .returned v' ∧ w'.ownsRow base 3 1 v' (setZ l).length ((setZ l).map (Value.int .i64)) ∧ w.grownBy w' v.ownBlock := by
  obtain ⟨h0, ⟨rfl, hn⟩ | ⟨g, cap, cur, rfl, hg, hh, h1, h2, h3, h4⟩⟩ := hown
  · refine (Tryz.slices_Compact_int_empty none 0 w).mono ?_
    rintro e w' ⟨rfl, rfl⟩
    have e0 : l = [] := List.length_eq_zero_iff.1 hn
    subst e0
    exact ⟨_, rfl, World.ownsRow_nil _ _ _ _, World.grownBy.refl _ _⟩
  · have hs := sortZ_length l
    have hH := holdsZ (zs := sortZ l) hh (by rw [hs]; simpa using h4)
    have hc := Tryz.slices_Compact_int g 0 cap (sortZ l) w hH (by rw [hs]; omega) (by rw [hs]; exact h1)
    rw [hs, compact_sortZ] at hc
    refine hc.mono ?_
    rintro e w' ⟨rfl, n, rfl⟩
    have hle := setZ_length l
    refine ⟨_, rfl, ?_, grownZ (os := #[]) _⟩
    have hq := heapZ (os := #[]) (n := n) (setZ l ++ List.replicate (l.length - (setZ l).length) 0).toArray hh
    refine ⟨by simp, .inr ⟨g, cap, _, rfl, hg, hq, by omega, h2, by simp [putCells, h3], ?_⟩⟩
    rw [Nat.mul_one]
    have ht := takeZ cur (setZ l ++ List.replicate (l.length - (setZ l).length) 0) (by simp; omega)
    have := congrArg (List.take (setZ l).length) ht
    rw [List.take_take] at this
    rw [Nat.min_eq_left (by simp)] at this
    rw [this, List.map_append, List.take_left' (by simp)]
end

section
open Go Go.RowKit Go.Shelf
attribute [local go_sem] Oper.semAt_some

set_option maxRecDepth 100000 in
set_option maxHeartbeats 8000000 in
theorem fromDeeds_bad (r : Int) (hr : r = 3 ∨ r = 102) (v : Value) (ds : List De) (w : World) (h : DeedsV w v ds) (hs : ShortDs ds) (hc : checkDF ds = r) :
    Calls Tryz.prog 37 #[v] w (MergeP ([], [], r) w) := by
  have hb0 := below_alloc' w (.cells #[.slice none 0 0, .slice none 0 0] 25)
  have y1 := Cel.new w 25 #[.slice none 0 0, .slice none 0 0]
  have HK := Lib.hid (checkDeeds_any v ds _ (h.below hb0) hs)
  rw [hc] at HK
  obtain ⟨A, c, rfl, _⟩ := h.shape
  clear h hs hc
  rcases hr with rfl | rfl
  all_goals
    go_enter Tryz.func37, Tryz.ntmps37
    go_wp2_with fail
    refine HK.out.mono ?_
    rintro e w1 ⟨rfl, hb1⟩
    have HB := Lib.hid (hb0.trans (hb1.mono hb0.size))
    have HR := Lib.hid (y1.below y1.lt hb1)
    clear hb0 hb1 y1 HK
    have q0 := HR.out.frozen 0
    have q1 := HR.out.frozen 1
    have q2 := HR.out.cell 0 _ rfl
    have q3 := HR.out.cell 1 _ rfl
    go_wp2
    have kk := HR.out.set2 (.slice none 0 0) (.slice none 0 0)
    have k0 := kk.cell 0 _ rfl
    have k1' := kk.cell 1 _ rfl
    have HEn := Lib.hid ((HB.out.setCell (p := ⟨w.heap.size, 0, none⟩) (by simp) (.slice none 0 0)).setCell (p := ⟨w.heap.size, 1, none⟩) (by simp) (.slice none 0 0))
    clear kk
    first
    | exact bodyPost_ret (v := .tuple #[.agg #[.slice none 0 0, .slice none 0 0], .int .i64 3]) (by simp [results, Tryz.results37, go_sem, k0, k1']) rfl ⟨HEn.out, _, _, _, _, _, _, rfl, net_nil _⟩
    | exact bodyPost_ret (v := .tuple #[.agg #[.slice none 0 0, .slice none 0 0], .int .i64 102]) (by simp [results, Tryz.results37, go_sem, k0, k1']) rfl ⟨HEn.out, _, _, _, _, _, _, rfl, net_nil _⟩
theorem facts_len3 {ds : List De} {s : ByteArray} {k j : Nat} (h : ds.length ≤ 64) (hk : k ≤ 24) (_hs : (allF ds)[k]? = some s) : (factsK ds k ++ ((setZ (yearsF ds s)).take j).map (actF s)).length ≤ 1600 := by
  have h1 := factsK_length h k
  have h2 := setZ_length (yearsF ds s)
  have h3 := yearsF_length h s
  rw [List.length_append, List.length_map, List.length_take]
  omega
theorem int_plain {l : List Int} {u : Value} (h : u ∈ l.map (Value.int .i64)) (A : Option Addr) (n c : Nat) : u ≠ .slice A n c := by
  obtain ⟨s, _, rfl⟩ := List.mem_map.1 h
  intro e
  cases e
set_option maxRecDepth 100000 in
set_option maxHeartbeats 8000000 in
theorem fromDeeds_good (v : Value) (ds : List De) (w : World) (h : DeedsV w v ds) (hs : ShortDs ds) (hc : checkDF ds = 0) (r : List ByteArray × List Fa × Int) (h24 : 24 < (allF ds).length → r = ([], [], 3)) (h48 : ¬ 24 < (allF ds).length → 48 < (factsD ds).length → r = ([], [], 3)) (hok : ¬ 24 < (allF ds).length → ¬ 48 < (factsD ds).length → r = (allF ds, factsD ds, 0)) :
    Calls Tryz.prog 37 #[v] w (MergeP r w) := by
  have hb0 := below_alloc' w (.cells #[.slice none 0 0, .slice none 0 0] 25)
  have y1 := Cel.new w 25 #[.slice none 0 0, .slice none 0 0]
  have HK := Lib.hid (checkDeeds_any v ds _ (h.below hb0) hs)
  rw [hc] at HK
  have h64 := (checkDF_few hc).1
  have HAl := Lib.hid (fun w' (hw : Below w.heap.size w w') => all_any v ds w' (h.below hw) (checkDF_few hc))
  have h832 := allF_length (checkDF_few hc)
  obtain ⟨A, c, rfl, h⟩ := h.shape
  obtain ⟨_, a1, a2⟩ := h.many
  have HD := Lib.hid (fun q => h.deed q)
  have H24 := Lib.hid h24
  have H48 := Lib.hid h48
  have HOk := Lib.hid hok
  clear h hs hc h24 h48 hok
  go_enter Tryz.func37, Tryz.ntmps37
  go_wp2_with fail
  refine HK.out.mono ?_
  rintro e w1 ⟨rfl, hb1⟩
  have HB := Lib.hid (hb0.trans (hb1.mono hb0.size))
  have HR := Lib.hid (y1.below y1.lt hb1)
  clear hb0 hb1 y1 HK
  go_wp2_with fail
  refine (HAl.out _ HB.out).mono ?_
  rintro e w2 ⟨v2, rfl, ho2, hb2⟩
  obtain ⟨A2, c2, rfl, _⟩ := own_shape ho2
  have HP2 := Lib.hid (Sl.of_own ho2)
  have HB2 := Lib.hid (HB.out.trans (hb2.mono HB.out.size))
  replace HR := Lib.hid (HR.out.below HR.out.lt hb2)
  have l0 := (Cel.new w2 25 #[.slice none 0 0, .slice none 0 0]).cell 0 _ rfl
  have l1 := (Cel.new w2 25 #[.slice none 0 0, .slice none 0 0]).cell 1 _ rfl
  have l2 := (Cel.new w2 25 #[.slice none 0 0, .slice none 0 0]).frozen 0
  have l3 := (Cel.new w2 25 #[.slice none 0 0, .slice none 0 0]).frozen 1
  clear hb2 ho2 HB HAl
  go_upto_region 5 with fail
  clear l0 l1 l2 l3
  have HO0 := Lib.hid (Cel.new w2 25 #[.slice A2 (allF ds).length c2, .slice none 0 0])
  have hb3 := below_alloc' w2 (.cells #[.slice A2 (allF ds).length c2, .slice none 0 0] 25)
  have hlt3 : w2.heap.size < (w2.alloc (.cells #[.slice A2 (allF ds).length c2, .slice none 0 0] 25)).heap.size := by simp
  generalize w2.alloc (.cells #[.slice A2 (allF ds).length c2, .slice none 0 0] 25) = w3 at *
  obtain ⟨Bo, hBo⟩ : ∃ Bo, w2.heap.size = Bo := ⟨_, rfl⟩
  have HB3 := Lib.hid (HB2.out.trans (hb3.mono HB2.out.size))
  have HBo := Lib.hid (show w.heap.size + 1 ≤ Bo by have := HR.out.lt; omega)
  replace HR := Lib.hid (HR.out.below HR.out.lt hb3)
  have HD0 := Lib.hid hb3
  rw [hBo] at HO0 hlt3 ⊢
  have HBe := Lib.hid hBo
  clear hb3 hBo HB2
  have o0 := HO0.out.cell 0 _ rfl
  by_cases h24 : 24 < (allF ds).length
  · have n1 : (24 : Int) < ((allF ds).length : Int) := by omega
    have hr := Lib.hid (H24.out h24)
    have q0 := HR.out.frozen 0
    have q1 := HR.out.frozen 1
    have q2 := HR.out.cell 0 _ rfl
    have q3 := HR.out.cell 1 _ rfl
    go_wp2
    have kk := HR.out.set2 (.slice none 0 0) (.slice none 0 0)
    have k0 := kk.cell 0 _ rfl
    have k1' := kk.cell 1 _ rfl
    have HEn := Lib.hid ((HB3.out.setCell (p := ⟨w.heap.size, 0, none⟩) (by simp) (.slice none 0 0)).setCell (p := ⟨w.heap.size, 1, none⟩) (by simp) (.slice none 0 0))
    clear kk
    exact bodyPost_ret (v := .tuple #[.agg #[.slice none 0 0, .slice none 0 0], .int .i64 3]) (by simp [results, Tryz.results37, go_sem, k0, k1']) rfl ⟨HEn.out, _, _, _, _, _, _, by rw [hr.out], by rw [hr.out]; exact net_nil _⟩
  · have n1 : ¬ (24 : Int) < ((allF ds).length : Int) := by omega
    have HH := Lib.hid h24
    obtain ⟨_, _, ea, ha1, ha2, hcell⟩ := names_at2 HP2.out
    cases ea
    have HCp := Lib.hid hcell
    clear hcell
    go_wp2
    clear o0 n1
    go_loopw [30] (fun ti wr => ∃ (k : Nat) (vb : Value), ti = .int .i64 k ∧ k ≤ (allF ds).length ∧ Hid (Cel wr Bo 25 #[.slice A2 (allF ds).length c2, vb]) ∧ Hid (wr.ownsRow (Bo + 1) 76 4 vb (factsK ds k).length (fasV (factsK ds k))) ∧ Hid (Cel wr w.heap.size 25 #[.slice none 0 0, .slice none 0 0]) ∧ Hid (Below w2.heap.size w2 wr) ∧ Hid (Below w.heap.size w wr)) (fun ti _ => (allF ds).length - (intOf ti).toNat)
    case atStart => exact ⟨0, _, rfl, by omega, HO0.out, World.ownsRow_nil _ _ _ _, HR.out, HD0.out, HB3.out⟩
    case round =>
      clear HO0 HR HD0 HB3 hlt3
      obtain ⟨k, vb, rfl, hk, HO, HW, HR, HP, HB⟩ := hrel
      obtain ⟨Ab, cb, rfl, _⟩ := own_shape HW.out
      obtain ⟨wo, hwo⟩ : ∃ wo, wo = wr := ⟨_, rfl⟩
      rw [← hwo] at HO HW HR HP HB ⊢
      clear hwo
      by_cases hlt : k < (allF ds).length
      · have hki : (k : Int) < ((allF ds).length : Int) := by omega
        obtain ⟨b5, o5, rfl, _, hcp⟩ := HCp.out (by omega)
        obtain ⟨s, hget⟩ : ∃ s, (allF ds)[k]? = some s := ⟨_, List.getElem?_eq_getElem hlt⟩
        have c1 := below_cell HP.out (hcp k s hget)
        have HFK := Lib.hid (factsK_succ hget)
        have HF3 := Lib.hid (fun j => facts_len3 (j := j) h64 (by omega) hget)
        clear hcp hget
        have HI0 := Lib.hid (Below.refl wo.heap.size wo)
        go_wp2
        clear c1
        go_loopw [8, 36] (fun u8 ti wi => ∃ j : Nat, ti = .int .i64 j ∧ j ≤ ds.length ∧ Hid (wi.ownsRow wo.heap.size 3 1 u8 (yearsF (ds.take j) s).length ((yearsF (ds.take j) s).map (Value.int .i64))) ∧ Hid (Below wo.heap.size wo wi)) (fun _ ti _ => ds.length - (intOf ti).toNat)
        case atStart => exact ⟨0, rfl, by omega, World.ownsRow_nil _ _ _ _, HI0.out⟩
        case round =>
          clear HI0
          obtain ⟨j, rfl, hj, HY, HI⟩ := hrel
          by_cases hltj : j < ds.length
          · have hji : (j : Int) < (ds.length : Int) := by omega
            obtain ⟨b0, o0, rfl, hb, hce⟩ := HD.out (by omega)
            have hget : ds[j]? = some ds[j] := List.getElem?_eq_getElem hltj
            obtain ⟨g0, g1, g2, g3, Aw, nw, cw, g4, hsw⟩ := hce j _ hget
            have hbj := HB.out.trans (HI.out.mono HB.out.size)
            replace g0 := below_cell hbj g0
            replace g1 := below_cell hbj g1
            replace g2 := below_cell hbj g2
            replace g3 := below_cell hbj g3
            replace g4 := below_cell hbj g4
            have hwit := hsw.below hbj
            have HYt := Lib.hid (years_take hget s)
            have HYl := Lib.hid (show (yearsF (ds.take j) s).length ≤ 64 from yearsF_length (by rw [List.length_take]; omega) s)
            clear hce hget hbj hsw
            generalize ds[j] = d at *
            obtain ⟨nm, yr, se, sl, wit⟩ := d
            simp only at g0 g1 g2 g3 g4 hwit HYt
            have HYa := Lib.hid (HY.out.alloc (.cells #[.string nm, .int .i64 yr, .string se, .string sl, .slice Aw nw cw] 63))
            have HIa := Lib.hid (HI.out.alloc HI.out.size (.cells #[.string nm, .int .i64 yr, .string se, .string sl, .slice Aw nw cw] 63))
            have HWa := Lib.hid (hwit.alloc (.cells #[.string nm, .int .i64 yr, .string se, .string sl, .slice Aw nw cw] 63))
            have HX := Lib.hid (Cel.new wr 63 #[.string nm, .int .i64 yr, .string se, .string sl, .slice Aw nw cw])
            clear hwit
            go_upto_region 14 with fail
            clear g0 g1 g2 g3 g4
            obtain ⟨B, hB⟩ : ∃ B, wr.heap.size = B := ⟨_, rfl⟩
            rw [hB] at HX
            generalize wr.alloc (.cells #[.string nm, .int .i64 yr, .string se, .string sl, .slice Aw nw cw] 63) = wa at *
            rw [hB]
            clear hB
            have c0 := HX.out.cell 0 (.string nm) rfl
            have c1 := HX.out.cell 1 (.int .i64 yr) rfl
            have c2' := HX.out.cell 2 (.string se) rfl
            have c3 := HX.out.cell 3 (.string sl) rfl
            have c4 := HX.out.cell 4 (.slice Aw nw cw) rfl
            go_wp2_with fail
            refine (takes_any nm yr se sl wit Aw nw cw s wa HWa.out).mono ?_
            rintro e w6 ⟨rfl, hb6⟩
            have HI6 := Lib.hid (HIa.out.trans (hb6.mono HIa.out.size))
            have HY6 := Lib.hid (own_below HYa.out hb6)
            have y6 := HX.out.below HX.out.lt hb6
            clear hb6 c0 c1 c2' c3 c4 HY HI HYa HIa HWa
            cases hq : takesB ⟨nm, yr, se, sl, wit⟩ s with
            | true =>
              have HY2 := Lib.hid (HYt.out.trans (by rw [hq, if_pos rfl]))
              have c1 := y6.cell 1 (.int .i64 yr) rfl
              have HY7 := Lib.hid (HY6.out.alloc (.cells #[.int .i64 yr] 3))
              have HI7 := Lib.hid (HI6.out.alloc HI6.out.size (.cells #[.int .i64 yr] 3))
              have HS7 := Lib.hid (Sl.new (s := 1) w6 3 1 1 #[.int .i64 yr] rfl (Nat.le_refl _) (by decide))
              clear hq y6 HYt
              go_wp2_with (at_builtin; refine appInt _ _ rfl rfl rfl rfl HY7.out HS7.out (by simp [Value.oneCell']) (N := (yearsF (ds.take j) s).length + 1) (by simp) (by have := HYl.out; omega) HI7.out.size ?_; intro A8 c8 w8 hap)
              have HI8 := Lib.hid (below_of_own hap.grown HY7.out HI7.out (Nat.le_refl _))
              have HY8 := Lib.hid hap.own
              clear hap c1
              go_wp2
              go_roundw
              case rel => exact ⟨j + 1, by go_num, by omega, by rw [HY2.out, List.length_append, List.map_append]; exact HY8.out, HI8.out⟩
              case measure => simp [intOf]; omega
            | false =>
              have HY2 := Lib.hid (HYt.out.trans (by rw [hq, if_neg (by decide), List.append_nil]))
              clear hq y6 HYt
              go_wp2
              go_roundw
              case rel => exact ⟨j + 1, by go_num, by omega, by rw [HY2.out]; exact HY6.out, HI6.out⟩
              case measure => simp [intOf]; omega
          · have HTk := Lib.hid (show ds.take j = ds from List.take_of_length_le (by omega))
            rw [HTk.out] at HY
            obtain ⟨A7, c7, e7, _⟩ := own_shape HY.out
            subst e7
            have HYl := Lib.hid (yearsF_length h64 s)
            clear HTk
            go_wp2_with fail
            refine (sortZ_own _ _ (yearsF ds s) wr HY.out (by have := HYl.out; omega)).mono ?_
            rintro e w7 ⟨rfl, ho7, hg7⟩
            have HY7 := Lib.hid ho7
            have HI7 := Lib.hid (below_of_own hg7 HY.out HI.out (Nat.le_refl _))
            clear ho7 hg7 HY HI
            go_wp2_with fail
            refine (compactZ_own _ _ (yearsF ds s) w7 HY7.out (by have := HYl.out; omega)).mono ?_
            rintro e w8 ⟨v8, rfl, ho8, hg8⟩
            have hI8 := below_of_own hg8 HY7.out HI7.out (Nat.le_refl _)
            have HY8 := Lib.hid ho8
            have HI8 := Lib.hid hI8
            obtain ⟨A8, c8, rfl, _⟩ := own_shape ho8
            have HDi := Lib.hid (fun g (e : (Value.slice A8 (setZ (yearsF ds s)).length c8).ownBlock = some g) => show Bo < g ∧ (Value.slice Ab (factsK ds k).length cb).ownBlock ≠ some g from by
              have h1 := own_ge ho8 e
              have h2 := HO.out.lt
              exact ⟨by omega, fun z => by have := own_lt HW.out z; omega⟩)
            have HO8 := Lib.hid (HO.out.below HO.out.lt hI8)
            have HW8 := Lib.hid (own_below HW.out hI8)
            have HR8 := Lib.hid (HR.out.below HR.out.lt hI8)
            have HP8 := Lib.hid (HP.out.trans (hI8.mono HP.out.size))
            have HB8 := Lib.hid (HB.out.trans (hI8.mono HB.out.size))
            have HZl := Lib.hid (Nat.le_trans (setZ_length (yearsF ds s)) HYl.out)
            clear ho8 hg8 hI8 HY7 HI7 HO HW HR HP HB
            generalize hzy : setZ (yearsF ds s) = zy at *
            have HZy := Lib.hid hzy
            clear hzy
            obtain ⟨B8, hB8⟩ : ∃ B8, wo.heap.size = B8 := ⟨_, rfl⟩
            rw [hB8] at HY8
            clear hB8
            have hzl := HZl.out
            have HFe := Lib.hid (show factsK ds (k + 1) = factsK ds k ++ zy.map (actF s) by rw [HFK.out]; unfold actsF; rw [HZy.out])
            obtain ⟨fk, hfk⟩ : ∃ fk, factsK ds k = fk := ⟨_, rfl⟩
            rw [hfk] at HW8 HF3 HFe HDi HO8
            clear hfk HFK HZy HZl HYl
            have hfl : fk.length ≤ 1600 := by have := HF3.out 0; rw [List.length_append] at this; omega
            have HFz := Lib.hid (show fk = fk ++ (zy.take 0).map (actF s) by simp)
            go_wp2
            go_loopw [54] (fun ti wi => ∃ (j : Nat) (vb : Value), ti = .int .i64 j ∧ j ≤ zy.length ∧ Hid (Cel wi Bo 25 #[.slice (some ⟨b5, o5, none⟩) (allF ds).length c2, vb]) ∧ Hid (wi.ownsRow (Bo + 1) 76 4 vb (fk ++ (zy.take j).map (actF s)).length (fasV (fk ++ (zy.take j).map (actF s)))) ∧ Hid (wi.ownsRow B8 3 1 (.slice A8 zy.length c8) zy.length (zy.map (Value.int .i64))) ∧ Hid (∀ g, (Value.slice A8 zy.length c8).ownBlock = some g → Bo < g ∧ vb.ownBlock ≠ some g) ∧ Hid (Cel wi w.heap.size 25 #[.slice none 0 0, .slice none 0 0]) ∧ Hid (Below w2.heap.size w2 wi) ∧ Hid (Below w.heap.size w wi)) (fun ti _ => zy.length - (intOf ti).toNat)
            case atStart => exact ⟨0, _, rfl, by omega, HO8.out, by rw [← HFz.out]; exact HW8.out, HY8.out, HDi.out, HR8.out, HP8.out, HB8.out⟩
            case round =>
              clear HO8 HW8 HY8 HDi HR8 HP8 HB8 HFz
              obtain ⟨j, vb, rfl, hj, HO, HW, HY, HDi, HR, HP, HB⟩ := hrel
              obtain ⟨Ab, cb, rfl, _⟩ := own_shape HW.out
              by_cases hltj : j < zy.length
              · have hji : (j : Int) < (zy.length : Int) := by omega
                have hgz : zy[j]? = some zy[j] := List.getElem?_eq_getElem hltj
                obtain ⟨_, _, ey, hy1, hy2, hyc⟩ := ints_at (Sl.of_own HY.out) rfl
                cases ey
                obtain ⟨b9, o9, rfl, _, hyc⟩ := hyc (by omega)
                have c1 := hyc j _ hgz
                have HT := Lib.hid (show fk ++ (zy.take (j + 1)).map (actF s) = (fk ++ (zy.take j).map (actF s)) ++ [actF s zy[j]] by rw [List.take_add_one, hgz, List.map_append, ← List.append_assoc]; rfl)
                have HLn := Lib.hid (HF3.out j)
                clear hyc hgz
                generalize zy[j] = y at *
                obtain ⟨fj, hfj⟩ : ∃ fj, fk ++ (zy.take j).map (actF s) = fj := ⟨_, rfl⟩
                rw [hfj] at HW HT HLn HDi HO
                have HFj := Lib.hid hfj
                clear hfj
                have o1 := HO.out.cell 1 _ rfl
                have HLt := Lib.hid HO.out.lt
                have HOa := Lib.hid (HO.out.alloc (.cells #[.int .i64 5, .string s, .string ⟨#[]⟩, .int .i64 y] 76))
                have HWa := Lib.hid (HW.out.alloc (.cells #[.int .i64 5, .string s, .string ⟨#[]⟩, .int .i64 y] 76))
                have HYa := Lib.hid (HY.out.alloc (.cells #[.int .i64 5, .string s, .string ⟨#[]⟩, .int .i64 y] 76))
                have HRa := Lib.hid (HR.out.alloc (.cells #[.int .i64 5, .string s, .string ⟨#[]⟩, .int .i64 y] 76))
                have HBa := Lib.hid (HB.out.alloc HB.out.size (.cells #[.int .i64 5, .string s, .string ⟨#[]⟩, .int .i64 y] 76))
                have HPa := Lib.hid (HP.out.alloc HP.out.size (.cells #[.int .i64 5, .string s, .string ⟨#[]⟩, .int .i64 y] 76))
                have HSl := Lib.hid (Sl.new (s := 4) wr 76 1 1 #[.int .i64 5, .string s, .string ⟨#[]⟩, .int .i64 y] rfl (Nat.le_refl _) (by decide))
                have HSz := Lib.hid (show Bo + 1 ≤ (wr.alloc (.cells #[.int .i64 5, .string s, .string ⟨#[]⟩, .int .i64 y] 76)).heap.size by have := HOa.out.lt; omega)
                have HYlt := Lib.hid (fun g (e : (Value.slice (some ⟨b9, o9, none⟩) zy.length c8).ownBlock = some g) => own_lt HYa.out e)
                go_wp2_with (refine appFact _ _ rfl rfl (by rfl) (by rfl) HWa.out HSl.out (by simp [Value.oneCell']) (N := fj.length + 1) (by simp; omega) (by have := HLn.out; omega) HSz.out ?_; intro A5 c5 w5 hap; have HBn := Lib.hid (below_of_own hap.grown HWa.out HBa.out (by have := HBo.out; omega)); have HOn := Lib.hid (HOa.out.kept hap.grown (fun e => by have := own_ge HWa.out e.symm; omega)); have HRn := Lib.hid (HRa.out.kept hap.grown (fun e => by have := own_ge HWa.out e.symm; have := HBo.out; omega)); have HWn := Lib.hid hap.own; have HPn := Lib.hid (below_of_own hap.grown HWa.out HPa.out (by have := HBe.out; omega)); have HYn := Lib.hid (own_keep HYa.out hap.grown (fun g e => (HDi.out g e).2)); have HDn := Lib.hid (show ∀ g, (Value.slice (some ⟨b9, o9, none⟩) zy.length c8).ownBlock = some g → Bo < g ∧ (Value.slice A5 (fj.length + 1) c5).ownBlock ≠ some g from fun g e => ⟨(HDi.out g e).1, fun z => (by rcases hap.block with q | q; exact (HDi.out g e).2 (q.symm.trans z); rw [q] at z; have := HYlt.out g e; cases z; omega)⟩); clear hap; have f1 := HOn.out.frozen 1; have o2 := HOn.out.cell 1 _ rfl)
                go_roundw
                case rel =>
                  refine ⟨j + 1, .slice A5 (fj.length + 1) c5, by go_num, by omega, HOn.out.setAt 1 _, ?_, own_ne HYn.out (fun e => by have := (HDi.out _ e).1; simp at this) _, HDn.out, HRn.out.other (p := ⟨Bo, 1, none⟩) (by have := HBo.out; simp; omega) _, HPn.out.setCell (p := ⟨Bo, 1, none⟩) (by have := HBe.out; simp; omega) _, HBn.out.setCell (p := ⟨Bo, 1, none⟩) (by have := HBo.out; simp; omega) _⟩
                  show World.ownsRow _ _ _ _ _ _ _
                  rw [HT.out, List.length_append, List.length_singleton, fas_snoc]
                  exact own_ne HWn.out (fun e => by have := own_ge HWn.out e; simp at this; omega) _
                case measure => simp [intOf]; omega
              · have HE := Lib.hid (show fk ++ (zy.take j).map (actF s) = factsK ds (k + 1) by rw [List.take_of_length_le (by omega)]; exact HFe.out.symm)
                rw [HE.out] at HW HO
                clear HE
                go_wp2
                exact ⟨⟨k + 1, .slice Ab (factsK ds (k + 1)).length cb, by go_num, by omega, HO.out, HW.out, HR.out, HP.out, HB.out⟩, by simp [intOf]; omega⟩
      · have HE := Lib.hid (factsK_all (ds := ds) (k := k) (by omega))
        rw [HE.out] at HW HO
        clear HE
        have o1 := HO.out.cell 1 _ rfl
        by_cases h48 : 48 < (factsD ds).length
        · have n1 : (48 : Int) < ((factsD ds).length : Int) := by omega
          have hr := Lib.hid (H48.out HH.out h48)
          have q0 := HR.out.frozen 0
          have q1 := HR.out.frozen 1
          have q2 := HR.out.cell 0 _ rfl
          have q3 := HR.out.cell 1 _ rfl
          go_wp2
          have kk := HR.out.set2 (.slice none 0 0) (.slice none 0 0)
          have k0 := kk.cell 0 _ rfl
          have k1' := kk.cell 1 _ rfl
          have HEn := Lib.hid ((HB.out.setCell (p := ⟨w.heap.size, 0, none⟩) (by simp) (.slice none 0 0)).setCell (p := ⟨w.heap.size, 1, none⟩) (by simp) (.slice none 0 0))
          clear kk
          exact bodyPost_ret (v := .tuple #[.agg #[.slice none 0 0, .slice none 0 0], .int .i64 3]) (by simp [results, Tryz.results37, go_sem, k0, k1']) rfl ⟨HEn.out, _, _, _, _, _, _, by rw [hr.out], by rw [hr.out]; exact net_nil _⟩
        · have n1 : ¬ (48 : Int) < ((factsD ds).length : Int) := by omega
          have hr := Lib.hid (HOk.out HH.out h48)
          have HPe := Lib.hid (HP2.out.below HP.out)
          have o0 := HO.out.cell 0 _ rfl
          have q0 := HR.out.frozen 0
          have q1 := HR.out.frozen 1
          have q2 := HR.out.cell 0 _ rfl
          have q3 := HR.out.cell 1 _ rfl
          go_wp2
          have kk := HR.out.set2 (.slice A2 (allF ds).length c2) (.slice Ab (factsD ds).length cb)
          have k0 := kk.cell 0 _ rfl
          have k1' := kk.cell 1 _ rfl
          clear kk
          have q4 := (HR.out.setAt 0 (.slice A2 (allF ds).length c2)).cell 1 (.slice none 0 0) rfl
          have HSl := Lib.hid (((Sl.of_own HW.out).setCell q2 (fun u hu => fas_plain hu _ _ _) (.slice A2 (allF ds).length c2)).setCell q4 (fun u hu => fas_plain hu _ _ _) (.slice Ab (factsD ds).length cb))
          have HSp := Lib.hid ((HPe.out.setCell q2 (fun u hu => nm_plain hu _ _ _) (.slice A2 (allF ds).length c2)).setCell q4 (fun u hu => nm_plain hu _ _ _) (.slice Ab (factsD ds).length cb))
          have HBf := Lib.hid ((HB.out.setCell (p := ⟨w.heap.size, 0, none⟩) (by simp) (.slice A2 (allF ds).length c2)).setCell (p := ⟨w.heap.size, 1, none⟩) (by simp) (.slice Ab (factsD ds).length cb))
          clear q4
          exact bodyPost_ret (v := .tuple #[.agg #[.slice A2 (allF ds).length c2, .slice Ab (factsD ds).length cb], .int .i64 0]) (by simp [results, Tryz.results37, go_sem, k0, k1']) rfl ⟨HBf.out, _, _, _, _, _, _, by rw [hr.out], by rw [hr.out]; exact ⟨HSp.out, HSl.out⟩⟩
theorem fromDeeds_any (v : Value) (ds : List De) (w : World) (h : DeedsV w v ds) (hs : ShortDs ds) :
    Calls Tryz.prog 37 #[v] w (MergeP (fromD ds) w) := by
  rcases checkDF_cases ds with hc | hc | hc
  · have := fromDeeds_bad 3 (.inl rfl) v ds w h hs hc
    unfold fromD
    rw [hc, if_pos (by decide)]
    exact this
  · have := fromDeeds_bad 102 (.inr rfl) v ds w h hs hc
    unfold fromD
    rw [hc, if_pos (by decide)]
    exact this
  · refine fromDeeds_good v ds w h hs hc _ (fun q => ?_) (fun p q => ?_) (fun p q => ?_)
    · unfold fromD
      rw [hc, if_neg (by decide), if_pos (.inl q)]
    · unfold fromD
      rw [hc, if_neg (by decide), if_pos (.inr q)]
    · unfold fromD
      rw [hc, if_neg (by decide), if_neg (fun z => z.elim p q)]
end
end Go.Proofs.YtdmcopjbckelmaaGreatDoor
