/- The reference's book: Names, Ladder, Group. -/
import Derived.Test.YtmibpncmebhbjaaDoorRbk7
import Derived.Test.YtmibpncmebhbjaaDoorNam1
namespace Go.Proofs.YtmibpncmebhbjaaDoor
open Go Go.RowKit Go.Shelf
attribute [local go_sem] Oper.semAt_some

set_option maxRecDepth 100000 in
set_option maxHeartbeats 2000000 in
theorem rnames_any (Bk : Nat) (lv bv : Value) (ls : List La) (bs : List Br) (w : World) (h : RBk w Bk lv bv ls bs) (hm : ls.length ≤ 32) :
    Calls Tryd.prog 69 #[.pointer (some ⟨Bk, 0, none⟩)] w fun e w' => ∃ A c, e = .returned (.slice A ls.length c) ∧ w'.ownsRow w.heap.size 9 1 (.slice A ls.length c) ls.length (namesV (nmsOf ls)) ∧ Below w.heap.size w w' := by
  obtain ⟨A, c, rfl, hlc, hcm, hlk⟩ := h.lads.open
  have HLK := Lib.hid hlk
  have HR := Lib.hid h.blk
  clear hlk h
  go_enter Tryd.func69, Tryd.ntmps69
  go_wp2
  go_loopw [3, 4] (fun v i wr => ∃ (k : Nat), k ≤ ls.length ∧ i = .int .i64 k ∧ wr.ownsRow w.heap.size 9 1 v k (namesV (nmsOf (ls.take k))) ∧ Below w.heap.size w wr) (fun _ i _ => ls.length - (intOf i).toNat)
  case atStart => exact ⟨0, by omega, rfl, World.ownsRow_nil _ _ _ _, Below.refl _ _⟩
  case round =>
    obtain ⟨k, hk, rfl, hown, hbel⟩ := hrel
    have q0 := (HR.out.below HR.out.lt hbel).cell 0 (.slice A ls.length c) rfl
    by_cases hlt : k < ls.length
    · obtain ⟨b, o, A', c', rfl, _, h1, _, _⟩ := HLK.out k hlt
      have e0 := below_cell hbel h1
      have HS := Lib.hid (nmsOf_take hlt)
      have hsz := hbel.size
      clear h1
      generalize ls[k].nm = nm at *
      have HO := Lib.hid (hown.alloc (.cells #[.string nm] 9))
      have HB := Lib.hid (hbel.alloc hsz (.cells #[.string nm] 9))
      have HS1 := Lib.hid (Sl.new (s := 1) wr 9 1 1 #[.string nm] rfl (Nat.le_refl _) (by decide))
      clear hown hbel
      go_wp2_with (at_builtin; refine appStr _ _ rfl rfl rfl rfl HO.out HS1.out (by simp [Value.oneCell']) (N := k + 1) (by simp) (by omega) (by simp; omega) ?_; intro A1 c1 w1 hap)
      have HB1 := Lib.hid (below_of_own hap.grown HO.out HB.out (Nat.le_refl _))
      have HO1 := Lib.hid hap.own
      clear hap e0 q0
      go_wp2
      go_roundw
      case rel => exact ⟨k + 1, hlt, by go_num, by rw [HS.out, namesV_append]; simpa [namesV] using HO1.out, HB1.out⟩
      case measure => simp [intOf]; omega
    · have HT := Lib.hid (show ls.take k = ls from List.take_of_length_le (by omega))
      obtain rfl : k = ls.length := by omega
      obtain ⟨A1, c1, rfl, hown⟩ := own_shape hown
      have HO := Lib.hid hown
      clear hown
      go_wp2
      go_ret
      exact ⟨A1, c1, rfl, by have := HO.out; rwa [HT.out] at this, hbel⟩

set_option maxRecDepth 100000 in
set_option maxHeartbeats 1000000 in
theorem rladder_no (Bk : Nat) (lv bv : Value) (st : St) (bs : List Br) (nm : ByteArray) (w : World) (h0 : RBk w Bk lv bv st.ls bs) (hm : st.ls.length ≤ 32) (h : idxE st.ls nm ≠ 0) :
    Calls Tryd.prog 71 #[.pointer (some ⟨Bk, 0, none⟩), .string nm] w fun e w' => e = .returned (.tuple #[.agg #[.string ⟨#[]⟩, .slice none 0 0], .int .i64 4]) ∧ Below w.heap.size w w' := by
  have hw0 := below_alloc' w (.cells #[.string ⟨#[]⟩, .slice none 0 0] 33)
  have y0 := Cel.new w 33 #[.string ⟨#[]⟩, .slice none 0 0]
  have hB := h0.below hw0
  have HI := Lib.hid (at_any Bk lv bv st.ls nm _ hB.blk hB.lads hm)
  rw [(atI_no h).1] at HI
  clear hB h h0
  obtain ⟨W, hW⟩ : ∃ W, w.alloc (.cells #[.string ⟨#[]⟩, .slice none 0 0] 33) = W := ⟨_, rfl⟩
  rw [hW] at hw0 y0 HI
  have c0 := y0.cell 0 (.string ⟨#[]⟩) rfl
  have c1 := y0.cell 1 (.slice none 0 0) rfl
  have f0 := y0.frozen 0
  have f1 := y0.frozen 1
  go_enter Tryd.func71, Tryd.ntmps71
  go_wp2_with fail
  clear hW
  go_fit HI.out
  rintro e w' ⟨rfl, rfl⟩
  go_wp2
  exact bodyPost_ret (v := .tuple #[.agg #[.string ⟨#[]⟩, .slice none 0 0], .int .i64 4]) (by simp [results, Tryd.results71, go_sem, c0, c1]) rfl
    ⟨rfl, by repeat (first | exact hw0 | refine Below.setCell ?_ (by simp) _)⟩

set_option maxRecDepth 100000 in
set_option maxHeartbeats 1000000 in
theorem rladder_yes (Bk : Nat) (lv bv : Value) (st : St) (bs : List Br) (nm : ByteArray) (w : World) (h0 : RBk w Bk lv bv st.ls bs) (hg : Good st) (h : idxE st.ls nm = 0) :
    Calls Tryd.prog 71 #[.pointer (some ⟨Bk, 0, none⟩), .string nm] w fun e w' => ∃ A' c', e = .returned (.tuple #[.agg #[.string (ladOf st (idxI st.ls nm)).1, .slice A' (ladOf st (idxI st.ls nm)).2.length c'], .int .i64 0]) ∧ Below w.heap.size w w' ∧ Sl w' 2 (.slice A' (ladOf st (idxI st.ls nm)).2.length c') (unitsV (ladOf st (idxI st.ls nm)).2) := by
  have hI := idxI_lt h
  have hw0 := below_alloc' w (.cells #[.string ⟨#[]⟩, .slice none 0 0] 33)
  have y0 := Cel.new w 33 #[.string ⟨#[]⟩, .slice none 0 0]
  have hB := h0.below hw0
  have HIX := Lib.hid (at_any Bk lv bv st.ls nm _ hB.blk hB.lads hg.few)
  rw [atI_yes h] at HIX
  have hlen : (ladOf st (idxI st.ls nm)).2.length ≤ 12 := by
    have := hg.ok _ (List.getElem_mem hI)
    rw [ladOf_lt hI]
    exact (checkF_zero this).2.2
  obtain ⟨A, c, rfl, hlc, hcm, hlk⟩ := hB.lads.open
  obtain ⟨b, o, A', c', e, _, h1, h2, h3⟩ := hlk _ hI
  subst e
  have q0 := hB.blk.cell 0 (.slice (some ⟨b, o, none⟩) st.ls.length c) rfl
  rw [show st.ls[idxI st.ls nm].nm = (ladOf st (idxI st.ls nm)).1 by rw [ladOf_lt hI]] at h1
  rw [show st.ls[idxI st.ls nm].us = (ladOf st (idxI st.ls nm)).2 by rw [ladOf_lt hI]] at h2 h3
  have HS := Lib.hid h3
  have d0 : decide (((idxI st.ls nm : Nat) : Int) < 0) = false := decide_eq_false (by omega)
  clear hB h0 h hg hlk h3
  generalize (ladOf st (idxI st.ls nm)).1 = x at *
  generalize (ladOf st (idxI st.ls nm)).2 = us at *
  generalize idxI st.ls nm = I at *
  obtain ⟨W, hW⟩ : ∃ W, w.alloc (.cells #[.string ⟨#[]⟩, .slice none 0 0] 33) = W := ⟨_, rfl⟩
  rw [hW] at hw0 y0 HIX h1 h2 q0 HS
  have HC := Lib.hid (copyLadder_any x A' c' us W HS.out (by omega))
  have HY := Lib.hid y0
  have HW0 := Lib.hid hw0
  have hsz : w.heap.size < W.heap.size := y0.lt
  clear y0 hw0
  go_enter Tryd.func71, Tryd.ntmps71
  go_wp2_with fail
  clear hW
  go_fit HIX.out
  rintro e w' ⟨rfl, rfl⟩
  go_wp2_with fail
  go_fit HC.out
  rintro e w1 ⟨A2, c2, rfl, hb1, hown⟩
  have z := HY.out.below HY.out.lt hb1
  have f0 := z.frozen 0
  have f1 := z.frozen 1
  have c0 := z.cell 0 (.string ⟨#[]⟩) rfl
  have c1 := z.cell 1 (.slice none 0 0) rfl
  have HS2 := Lib.hid (Sl.of_own (own_other (own_other hown ⟨w.heap.size, 0, none⟩ hsz (.string x)) ⟨w.heap.size, 1, none⟩ hsz (.slice A2 us.length c2)))
  have k := z.set2 (.string x) (.slice A2 us.length c2)
  have k0 := k.cell 0 (.string x) rfl
  have k1 := k.cell 1 (.slice A2 us.length c2) rfl
  have HB := Lib.hid (below_then HW0.out hb1)
  clear z k hb1 hown h1 h2 q0
  go_wp2
  exact bodyPost_ret (v := .tuple #[.agg #[.string x, .slice A2 us.length c2], .int .i64 0]) (by simp [results, Tryd.results71, go_sem, k0, k1]) rfl
    ⟨A2, c2, rfl, (HB.out.setCell (p := ⟨w.heap.size, 0, none⟩) (by simp) _).setCell (p := ⟨w.heap.size, 1, none⟩) (by simp) _, HS2.out⟩

set_option maxRecDepth 100000 in
set_option maxHeartbeats 2000000 in
theorem rgroup_any (Bk : Nat) (lv bv : Value) (st : St) (bs : List Br) (nm : ByteArray) (w : World) (h : RBk w Bk lv bv st.ls bs) (hd : BookD st bs) (hbs : bs.length ≤ 64) :
    Calls Tryd.prog 72 #[.pointer (some ⟨Bk, 0, none⟩), .string nm] w fun e w' => ∃ v, e = .returned v ∧ Sl w' 1 v (namesV (groupF st nm)) ∧ Below w.heap.size w w' := by
  have HA := Lib.hid (at_any Bk lv bv st.ls nm w h.blk h.lads hd.good.few)
  obtain ⟨A, c, rfl, hlc, hcm, hlk⟩ := h.lads.open
  have HLK := Lib.hid hlk
  have HR := Lib.hid h
  have HD := Lib.hid hd
  have hfew := hd.good.few
  clear hlk h hd
  go_enter Tryd.func72, Tryd.ntmps72
  go_wp2_with fail
  go_fit HA.out
  rintro e w' ⟨rfl, rfl⟩
  by_cases hi : idxE st.ls nm = 0
  · have HGF := Lib.hid (show groupF st nm = groupK st (idxI st.ls nm) st.ls.length from if_pos hi)
    have hI := idxI_lt hi
    rw [atI_yes hi]
    have d0 : decide (((idxI st.ls nm : Nat) : Int) < 0) = false := decide_eq_false (by omega)
    clear hi HA
    generalize idxI st.ls nm = I at *
    go_wp2
    go_loopw [6, 7] (fun v i wr => ∃ (k m : Nat), k ≤ st.ls.length ∧ i = .int .i64 k ∧ m ≤ k ∧ Hid ((groupK st I k).length = m) ∧ wr.ownsRow w.heap.size 9 1 v m (namesV (groupK st I k)) ∧ Below w.heap.size w wr) (fun _ i _ => st.ls.length - (intOf i).toNat)
    case atStart => exact ⟨0, 0, by omega, rfl, by omega, rfl, World.ownsRow_nil _ _ _ _, Below.refl _ _⟩
    case round =>
      obtain ⟨k, m, hk, rfl, hm, HM, hown, hbel⟩ := hrel
      have q0 := (HR.out.below hbel).blk.cell 0 (.slice A st.ls.length c) rfl
      by_cases hlt : k < st.ls.length
      · have hw := way_any Bk _ bv st bs I k wr (HR.out.below hbel) hfew hbs HD.out.ok hI
        have HO := Lib.hid hown
        have HB := Lib.hid hbel
        clear hown hbel
        go_wp2_with fail
        go_fit hw
        intro e w1 hpost
        clear hw q0
        obtain ⟨hb1, hpost⟩ := hpost
        have HB1 := Lib.hid (below_then HB.out hb1)
        have HO1 := Lib.hid (own_below HO.out hb1)
        clear hb1
        have q0 := (HR.out.below HB1.out).blk.cell 0 (.slice A st.ls.length c) rfl
        rcases hpost with ⟨l, vl, rfl, hsl, hp, hlen⟩ | ⟨rfl, hn⟩
        · have hgr : grpAt st k = grpAt st I := (HD.out.sp.of _ _ hp.conn).symm
          have HS := Lib.hid (groupK_yes hlt hgr)
          obtain ⟨VA, vn, vc, rfl, _⟩ := hsl.1.shape
          obtain ⟨b, o, A', c', rfl, _, h1, _, _⟩ := HLK.out k hlt
          have e0 := below_cell HB1.out h1
          clear h1 hsl hp hlen hgr
          generalize st.ls[k].nm = x at *
          have HO2 := Lib.hid (own_alloc (o := .cells #[.string x] 9) HO1.out)
          have hsz := HB1.out.size
          have HB2 := Lib.hid (HB1.out.alloc hsz (.cells #[.string x] 9))
          have HS1 := Lib.hid (Sl.new (s := 1) w1 9 1 1 #[.string x] rfl (Nat.le_refl _) (by decide))
          go_wp2_with (at_builtin; refine appStr _ _ rfl rfl rfl rfl HO2.out HS1.out (by simp [Value.oneCell']) (N := m + 1) (by simp) (by omega) (by simp; omega) ?_; intro A1 c1 w2 hap)
          have HB3 := Lib.hid (below_of_own hap.grown HO2.out HB2.out (Nat.le_refl _))
          have HO3 := Lib.hid hap.own
          clear hap e0 q0
          go_wp2
          go_roundw
          case rel => exact ⟨k + 1, m + 1, hlt, by go_num, by omega, (show (groupK st I (k + 1)).length = m + 1 by rw [HS.out, List.length_append, HM.out]; rfl), by rw [HS.out, namesV_append]; simpa [namesV] using HO3.out, HB3.out⟩
          case measure => simp [intOf]; omega
        · have hgr : grpAt st k ≠ grpAt st I := fun e => hn (HD.out.sp.on _ _ hI hlt e.symm)
          have HS := Lib.hid (groupK_no hgr)
          clear hn hgr
          go_wp2
          go_roundw
          case rel => exact ⟨k + 1, m, hlt, by go_num, by omega, (show (groupK st I (k + 1)).length = m by rw [HS.out, HM.out]), by rw [HS.out]; exact HO1.out, HB1.out⟩
          case measure => simp [intOf]; omega
      · have hke : k = st.ls.length := by omega
        have HGE := Lib.hid (show groupF st nm = groupK st I k by rw [HGF.out, hke])
        have HSL := Lib.hid (Sl.of_own hown)
        clear hke
        go_wp2
        go_ret
        exact ⟨_, rfl, by rw [HGE.out]; exact HSL.out, hbel⟩
  · have HGF := Lib.hid (show groupF st nm = [] from if_neg hi)
    rw [(atI_no hi).1]
    clear hi HA
    go_wp2
    go_ret
    exact ⟨_, rfl, by rw [HGF.out]; exact Sl.nil0 _ _, Below.refl _ _⟩
end Go.Proofs.YtmibpncmebhbjaaDoor
