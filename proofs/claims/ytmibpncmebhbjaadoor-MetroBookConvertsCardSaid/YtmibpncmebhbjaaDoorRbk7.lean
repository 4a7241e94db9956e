/- The reference's NewBook. -/
import Derived.Test.YtmibpncmebhbjaaDoorRbk6
import Derived.Test.YtmibpncmebhbjaaDoorPot2
import Derived.Deep.RegionLaw
namespace Go.Proofs.YtmibpncmebhbjaaDoor
open Go Go.RowKit Go.Shelf
attribute [local go_sem] Oper.semAt_some

theorem infoBriR : (Tryd.prog.info? 83).map (fun i => (i.zero, i.size, i.bytes)) = some (some (.agg #[.string ⟨#[]⟩, .string ⟨#[]⟩, .string ⟨#[]⟩, .string ⟨#[]⟩, .int .i64 0, .int .i64 0]), 6, 80) := by kernel_rfl
section
variable {ops : Array Oper} {o : Oper} {a : Act} {Q : Exit → Act → World → Prop} {w : World} {K : Act → World → Prop} {E : Prop}
theorem stepBriR (s x : Operand) (hgd : o.guard = none) (ho : o.op = .call { callee := .builtin .append, args := #[s, x], argTypes := #[43, 43] })
    {base n : Nat} {v vx : Value} {xs news : List Value} (hs : a.eval s = v) (hx : a.eval x = vx) (hown : w.ownsRow base 83 6 v n xs) (hr : Sl w 6 vx news) (h1 : ∀ u ∈ news, u.oneCell' = true)
    {N : Nat} (hN : n * 6 + news.length = N * 6) (hb : N ≤ 1759218604441) (hbase : base ≤ w.heap.size)
    (h : ∀ A c w', Appended base 83 6 v xs news w w' A N c → K (a.put o.dst (.slice A N c)) w') : if Region.wanted o (yielded ops a.tmps) = true then Oper.wp Tryd.prog o a w K Q else E := by
  obtain ⟨i, hi, hz0, hz1, hz2⟩ := info_parts infoBriR
  exact step_app w hgd s x 43 ho base 83 i _ 6 80 Tryd.underlying43 hi hz0 hz1 hz2 rfl (by decide) v n xs hs hown vx news hx hr h1 N hN (by omega) (by decide) hbase h
end
/-- The reference's book while it is being made. -/
structure RBG (w : World) (base Bk : Nat) (lv bv : Value) (ls : List La) (bs : List Br) : Prop where
  blk : Cel w Bk 146 #[lv, bv]
  hB : base ≤ Bk
  lads : ∃ ps : List (La × Value), ps.map (·.1) = ls ∧ w.ownsRow base 33 2 lv ls.length (ladCells ps) ∧ ∀ p ∈ ps, SlT w 78 2 p.2 (unitsV p.1.us)
  brs : w.ownsRow base 83 6 bv bs.length (brsV bs)
section
variable {w w' : World} {base Bk : Nat} {lv bv : Value} {ls : List La} {bs : List Br}
theorem RBG.below (h : RBG w base Bk lv bv ls bs) (hb : Below w.heap.size w w') : RBG w' base Bk lv bv ls bs := by
  obtain ⟨ps, e, h1, h2⟩ := h.lads
  exact ⟨h.blk.below h.blk.lt hb, h.hB, ⟨ps, e, own_below h1 hb, fun p hp => (h2 p hp).below hb⟩, own_below h.brs hb⟩
theorem RBG.view (h : RBG w base Bk lv bv ls bs) : RBk w Bk lv bv ls bs := by
  obtain ⟨ps, e, h1, h2⟩ := h.lads
  exact ⟨h.blk, ⟨ps, e, Sl.of_own h1, fun p hp => (h2 p hp).1⟩, Sl.of_own h.brs⟩
/-- A ladder more. -/
theorem RBG.addLad (h : RBG w base Bk lv bv ls bs) {ps : List (La × Value)} (e : ps.map (·.1) = ls) (h1 : w.ownsRow base 33 2 lv ls.length (ladCells ps)) (h2 : ∀ p ∈ ps, SlT w 78 2 p.2 (unitsV p.1.us)) (x : La) (u : Value) (hu : SlT w 78 2 u (unitsV x.us)) {A : Option Addr} {c N : Nat}
    (ha : Appended base 33 2 lv (ladCells ps) [.string x.nm, u] w w' A N c) (hN : N = ls.length + 1) :
    RBG (w'.setCell ⟨Bk, 0, none⟩ (.slice A N c)) base Bk (.slice A N c) bv (ls ++ [x]) bs := by
  subst hN
  have hr : ∀ g, lv.ownBlock = some g → ∃ C, w.heap[g]? = some (.cells C 33 (0, 0)) := fun g hg => own_typed h1 hg
  have hB' := h.blk.keptT ha.grown hr (by decide)
  refine ⟨by simpa using hB'.setAt 0 (.slice A (ls.length + 1) c), h.hB, ⟨ps ++ [(x, u)], by simp [e], ?_, fun p hp => ?_⟩, own_setBk (own_keptT h.brs ha.grown hr (by decide)) hB' (by decide) _ _⟩
  · have := own_setBk ha.own hB' (by decide) 0 (.slice A (ls.length + 1) c)
    have e2 : ladCells (ps ++ [(x, u)]) = ladCells ps ++ [.string x.nm, u] := by simp [ladCells]
    rw [e2]
    simpa using this
  · have hk : SlT w' 78 2 p.2 (unitsV p.1.us) := by
      rcases List.mem_append.1 hp with hp | hp
      · exact (h2 p hp).keptT ha.grown hr (by decide)
      · have : p = (x, u) := by simpa using hp
        subst this
        exact hu.keptT ha.grown hr (by decide)
    exact hk.setOther (p := ⟨Bk, 0, none⟩) hB' (by decide) _
/-- A bridge more. -/
theorem RBG.addBri (h : RBG w base Bk lv bv ls bs) (x : Br) {A : Option Addr} {c N : Nat}
    (ha : Appended base 83 6 bv (brsV bs) (brV x) w w' A N c) (hN : N = bs.length + 1) :
    RBG (w'.setCell ⟨Bk, 1, none⟩ (.slice A N c)) base Bk lv (.slice A N c) ls (bs ++ [x]) := by
  subst hN
  obtain ⟨ps, e, h1, h2⟩ := h.lads
  have hr : ∀ g, bv.ownBlock = some g → ∃ C, w.heap[g]? = some (.cells C 83 (0, 0)) := fun g hg => own_typed h.brs hg
  have hB' := h.blk.keptT ha.grown hr (by decide)
  refine ⟨by simpa using hB'.setAt 1 (.slice A (bs.length + 1) c), h.hB, ⟨ps, e, own_setBk (own_keptT h1 ha.grown hr (by decide)) hB' (by decide) _ _, fun p hp => ((h2 p hp).keptT ha.grown hr (by decide)).setOther (p := ⟨Bk, 1, none⟩) hB' (by decide) _⟩, ?_⟩
  have := own_setBk ha.own hB' (by decide) 1 (.slice A (bs.length + 1) c)
  have e2 : brsV (bs ++ [x]) = brsV bs ++ brV x := by simp [brsV]
  rw [e2]
  simpa using this
end
theorem bridgeF_zero {st : St} {b : Br} (h : (bridgeF st b).1 = 0) : brE st b = 0 := by
  unfold bridgeF at h
  split at h
  · assumption
  · exact h
/-- What the search leans on. -/
structure BookD (st : St) (bs : List Br) : Prop where
  good : Good st
  ok : ∀ b ∈ bs, brE st b = 0
  sp : SpS st (bs.map (edOf st))
theorem BookD.step {st : St} {bs : List Br} {b : Br} (h : BookD st bs) (hb : (bridgeF st b).1 = 0) : BookD (bridgeF st b).2 (bs ++ [b]) := by
  have hz := bridgeF_zero hb
  have hls := bridgeF_ls st b
  refine ⟨good_bridge st b h.good, fun x hx => ?_, ?_⟩
  · rw [brE_ls hls]
    rcases List.mem_append.1 hx with hx | hx
    · exact h.ok x hx
    · simp at hx; subst hx; exact hz
  · rw [edOf_map hls, List.map_append]
    rcases spS_step h.good h.sp hz with ⟨_, h2⟩ | ⟨h1, _⟩
    · exact h2
    · rw [h1] at hb; cases hb
theorem BookD.start {ls : List La} (h1 : ls.length ≤ 32) (h2 : ∀ l ∈ ls, checkF l.nm l.us = 0) : BookD (st0 ls) [] :=
  ⟨good_st0 h1 h2, fun _ hb => absurd hb List.not_mem_nil, spS_st0 ls⟩

/-- What NewBook of the reference leaves. -/
def RNewPost (ls : List La) (bs : List Br) (E : Int) (st' : St) (w : World) (e : Ending) (w' : World) : Prop :=
  ∃ r, e = .returned (.tuple #[r, .int .i64 E]) ∧ Below w.heap.size w w' ∧ (E ≠ 0 → r = .pointer none) ∧ (E = 0 → ∃ Bk lv bv, r = .pointer (some ⟨Bk, 0, none⟩) ∧ RBk w' Bk lv bv ls bs ∧ BookD st' bs ∧ st'.ls = ls)
theorem rnew_bad {ls : List La} {bs : List Br} {E : Int} {st' : St} {w w' : World} (hE : E ≠ 0) (hb : Below w.heap.size w w') : RNewPost ls bs E st' w (.returned (.tuple #[.pointer none, .int .i64 E])) w' :=
  ⟨_, rfl, hb, fun _ => rfl, fun h => absurd h hE⟩

set_option maxRecDepth 100000 in
set_option maxHeartbeats 4000000 in
theorem rnew_any (ls : List La) (bs : List Br) (v u : Value) (w : World) (hl : LadsV w v ls) (hb : Sl w 6 u (brsV bs)) (E : Int) (st' : St) (hF : newF ls bs = (E, st')) :
    Calls Tryd.prog 40 #[v, u] w (RNewPost ls bs E st' w) := by
  obtain ⟨A, c, rfl, hlc, hcm, hlk⟩ := hl.open
  obtain ⟨A', n', c', rfl, hm, hmc, hcm', hbk⟩ := hb.open2 (by decide)
  have hn' : n' = bs.length := by rw [brsV_length] at hm; omega
  subst hn'
  have HLK := Lib.hid hlk
  have HBK := Lib.hid hbk
  have HF := Lib.hid hF
  clear hl hb hlk hbk hm hF
  go_enter Tryd.func40, Tryd.ntmps40
  by_cases h1 : 32 < ls.length
  · have d1 : decide ((32 : Int) < (ls.length : Int)) = true := decide_eq_true (by omega)
    have HE := Lib.hid (show E = 3 by have := HF.out; unfold newF at this; rw [if_pos (.inl h1)] at this; injection this with this; exact this.symm)
    clear h1
    go_wp2
    go_ret2
    have := rnew_bad (ls := ls) (bs := bs) (st' := st') (E := E) (by rw [HE.out]; decide) (Below.refl w.heap.size w)
    rw [HE.out] at this ⊢
    exact this
  · have d1 : decide ((32 : Int) < (ls.length : Int)) = false := decide_eq_false (by omega)
    by_cases h2 : 64 < bs.length
    · have d2 : decide ((64 : Int) < (bs.length : Int)) = true := decide_eq_true (by omega)
      have HE := Lib.hid (show E = 3 by have := HF.out; unfold newF at this; rw [if_pos (.inr h2)] at this; injection this with this; exact this.symm)
      clear h2
      go_wp2
      go_ret2
      have := rnew_bad (ls := ls) (bs := bs) (st' := st') (E := E) (by rw [HE.out]; decide) (Below.refl w.heap.size w)
      rw [HE.out] at this ⊢
      exact this
    · have d2 : decide ((64 : Int) < (bs.length : Int)) = false := decide_eq_false (by omega)
      have HF2 := Lib.hid (show (if ladsE [] ls = 0 then bridgesF (st0 ls) bs else (ladsE [] ls, st0 ls)) = (E, st') by
        have := HF.out; unfold newF at this; rwa [if_neg (by omega)] at this)
      have HG0 : Hid (RBG (w.alloc (.cells #[.slice none 0 0, .slice none 0 0] 146)) w.heap.size w.heap.size (.slice none 0 0) (.slice none 0 0) [] []) :=
        ⟨Cel.new _ _ _, Nat.le_refl _, ⟨[], rfl, World.ownsRow_nil _ _ _ _, fun p hp => by cases hp⟩, World.ownsRow_nil _ _ _ _⟩
      have HW0 := Lib.hid (below_alloc' w (.cells #[.slice none 0 0, .slice none 0 0] 146))
      go_wp2
      go_loopw [7] (fun t7 wr => ∃ (k : Nat) (lv : Value), t7 = .int .i64 k ∧ k ≤ ls.length ∧ Hid (RBG wr w.heap.size w.heap.size lv (.slice none 0 0) (ls.take k) []) ∧ Hid (ladsE (ls.take k) (ls.drop k) = ladsE [] ls) ∧ Hid (Below w.heap.size w wr)) (fun t7 _ => ls.length - (intOf t7).toNat)
      case atStart => exact ⟨0, _, rfl, by omega, HG0.out, rfl, HW0.out⟩
      case round =>
        obtain ⟨k, lv, rfl, hk, HG, HE, HB⟩ := hrel
        by_cases hlt : k < ls.length
        · obtain ⟨lb, lo, A1, c1, rfl, hlb, e0, e1, hsl⟩ := HLK.out k hlt
          obtain ⟨x, hx⟩ : ∃ x, ls[k] = x := ⟨_, rfl⟩
          rw [hx] at e0 e1 hsl
          have hdrop : ls.drop k = x :: ls.drop (k + 1) := by rw [← hx]; exact List.drop_eq_getElem_cons hlt
          have HE2 := HE.out
          rw [hdrop, ladsE_cons] at HE2
          have HSL := Lib.hid hsl
          have HX := Lib.hid hx
          have HEX : Hid (∀ w', Below w.heap.size w w' → w'.cell? ⟨lb, lo + k * 2, none⟩ = some (.string x.nm) ∧ w'.cell? ⟨lb, lo + k * 2 + 1, none⟩ = some (.slice A1 x.us.length c1)) := fun w' hb => ⟨below_cell hb e0, below_cell hb e1⟩
          have HC := Lib.hid (rcheck_any x.nm x.hn A1 c1 x.us wr (hsl.below HB.out))
          have k1 : (0 : Int) ≤ (k : Int) := by omega
          have k2 : (k : Int) < (ls.length : Int) := by omega
          obtain ⟨x0, x1⟩ := HEX.out wr HB.out
          clear hsl hx hdrop e0 e1
          generalize hce : checkF x.nm x.us = ce at *
          by_cases hc : ce = 0
          · have dc : (ce != 0) = false := by simp [hc]
            rw [if_pos hc] at HE2
            have HCE := Lib.hid (hce.trans hc)
            have HE3 := Lib.hid HE2
            clear hce HE2 hc
            go_wp2_with fail
            go_fit HC.out
            rintro e w1 ⟨rfl, hb1⟩
            have HB1 := Lib.hid (below_then HB.out hb1)
            have HG1 := Lib.hid (HG.out.below hb1)
            obtain ⟨y0, y1⟩ := HEX.out w1 HB1.out
            clear hb1 x0 x1 HC
            have hat := at_any w.heap.size lv (.slice none 0 0) (ls.take k) x.nm w1 HG1.out.blk HG1.out.view.lads (by simp; omega)
            go_wp2_with fail
            go_fit hat
            rintro e w' ⟨rfl, rfl⟩
            clear hat
            cases hf : findL x.nm (ls.take k) 0 with
            | some j =>
              have HEE := Lib.hid (show E = 2 by
                have h3 := HE3.out
                rw [hf] at h3
                have := HF2.out
                rw [← h3] at this
                simp at this
                exact this.1.symm)
              have ha : atI (ls.take k) x.nm = (j : Int) := by simp [atI, hf]
              rw [ha]
              have d3 : decide ((0 : Int) ≤ (j : Int)) = true := decide_eq_true (by omega)
              clear hf ha
              go_wp2
              go_ret2
              have := rnew_bad (ls := ls) (bs := bs) (st' := st') (E := E) (by rw [HEE.out]; decide) HB1.out
              rw [HEE.out] at this ⊢
              exact this
            | none =>
              have ha : atI (ls.take k) x.nm = -1 := by simp [atI, hf]
              rw [ha]
              have HE4 := Lib.hid (show ladsE (ls.take (k + 1)) (ls.drop (k + 1)) = ladsE [] ls by
                have h3 := HE3.out
                rw [hf] at h3
                rw [← h3, List.take_succ_eq_append_getElem hlt, HX.out]; rfl)
              clear hf ha
              have hle12 : x.us.length ≤ 12 := (checkF_zero HCE.out).2.2
              have HLE := Lib.hid hle12
              have hkl : (ls.take k).length = k := by simp; omega
              have HKL := Lib.hid hkl
              obtain ⟨ps, hps1, hps2, hps3⟩ := HG1.out.lads
              rw [hkl] at hps2
              have HPS1 := Lib.hid hps1
              have HPS2 := Lib.hid hps2
              have HPS3 := Lib.hid hps3
              have c0 := HG1.out.blk.cell 0 lv rfl
              have z0 := HG1.out.blk.frozen 0
              have hsz := HB1.out.size
              clear hps1 hps2 hps3 hle12 hkl
              obtain ⟨V, hV⟩ : ∃ V, w1 = V := ⟨_, rfl⟩
              subst hV
              have HSV := Lib.hid (HSL.out.below HB1.out)
              go_upto_region 12 with fail
              go_region_law (first
                | (go_simp; go_at_call 28; refine (copyLadder_any x.nm A1 c1 x.us _ HSV.out.drew (by have := HLE.out; omega)).mono ?_; rintro e w3 ⟨A2, c2, rfl, hb3, hown3⟩; have hbl3 : Below w1.heap.size w1 w3 := below_undrew hb3; have HO3 := Lib.hid hown3; have r0 := below_cell hbl3 c0; have r3 := below_cell (below_alloc' w3 (.cells #[.string x.nm, .slice A2 x.us.length c2] 33)) r0; have r1 := below_cell hbl3 y0; have r2 := below_cell hbl3 y1; clear hown3)
                | (refine stepLad (.tmp 47) (.tmp 53) rfl rfl (by rfl) (by rfl) ((own_below HPS2.out hbl3).alloc _) (Sl.new (s := 2) w3 33 1 1 #[.string x.nm, .slice A2 x.us.length c2] rfl (Nat.le_refl _) (by decide)) (by simp [Value.oneCell']) (N := k + 1) (by simp [Nat.add_mul]) (by omega) (by have := hbl3.size; simp; omega) ?_; intro A4 c4 w4 hap; have HAP := Lib.hid hap; have hb4 := ((HG1.out.blk.below HG1.out.blk.lt hbl3).alloc (.cells #[.string x.nm, .slice A2 x.us.length c2] 33)).keptT hap.grown (fun _ hg => own_typed ((own_below HPS2.out hbl3).alloc (.cells #[.string x.nm, .slice A2 x.us.length c2] 33)) hg) (by decide); have q0 := hb4.cell 0 lv rfl; have q1 := hb4.frozen 0; clear hap hb4))
              all_goals (
                obtain ⟨V4, hV4⟩ : ∃ V4, w4.setCell ⟨w.heap.size, 0, none⟩ (.slice A4 (k + 1) c4) = V4 := ⟨_, rfl⟩
                have hw3 := below_alloc' w3 (.cells #[.string x.nm, .slice A2 x.us.length c2] 33)
                have hl3 := hbl3.size
                have HG4 : Hid (RBG V4 w.heap.size w.heap.size (.slice A4 (k + 1) c4) (.slice none 0 0) (ls.take (k + 1)) []) := by
                  rw [← hV4]
                  have h1 := (own_below HPS2.out hbl3).alloc (.cells #[.string x.nm, .slice A2 x.us.length c2] 33)
                  have h3 := ((HG1.out.below hbl3).below hw3)
                  have h4 : ∀ p ∈ ps, SlT (w3.alloc (.cells #[.string x.nm, .slice A2 x.us.length c2] 33)) 78 2 p.2 (unitsV p.1.us) := fun p hp => ((HPS3.out p hp).below hbl3).below hw3
                  have h5 := (SlT.of_own HO3.out).below hw3
                  have := h3.addLad HPS1.out (by rw [HKL.out]; exact h1) h4 x (.slice A2 x.us.length c2) h5 HAP.out (by rw [HKL.out])
                  rw [List.take_succ_eq_append_getElem hlt, HX.out]
                  exact this
                have HB4 : Hid (Below w.heap.size w V4) := by
                  rw [← hV4]
                  have h1 : Below w.heap.size w (w3.alloc (.cells #[.string x.nm, .slice A2 x.us.length c2] 33)) := (HB1.out.trans (hbl3.mono hsz)).alloc (by omega) _
                  have h2 := (own_below HPS2.out hbl3).alloc (.cells #[.string x.nm, .slice A2 x.us.length c2] 33)
                  exact (below_app h1 h1.size h2 HAP.out.grown).setCell (p := ⟨w.heap.size, 0, none⟩) (by simp) _
                clear hw3 q0 q1 r0 r1 r2 r3
                go_wp2
                clear hV4
                go_roundw
                case rel => exact ⟨k + 1, _, by go_num, hlt, HG4.out, HE4.out, HB4.out⟩
                case measure => simp [intOf]; omega)
          · have dc : (ce != 0) = true := by simp [hc]
            rw [if_neg hc] at HE2
            have HEE := Lib.hid (show E = ce by
              have := HF2.out
              rw [← HE2, if_neg hc] at this
              injection this with this
              exact this.symm)
            have HNZ := Lib.hid hc
            clear hce HE2 hc
            go_wp2_with fail
            go_fit HC.out
            rintro e w1 ⟨rfl, hb1⟩
            have HB1 := Lib.hid (below_then HB.out hb1)
            clear hb1 x0 x1 HC
            go_wp2
            go_ret2
            have := rnew_bad (ls := ls) (bs := bs) (st' := st') (E := E) (by rw [HEE.out]; exact HNZ.out) HB1.out
            rw [HEE.out] at this ⊢
            exact this
        · have hkl : k = ls.length := by omega
          have HLZ := Lib.hid (show ladsE [] ls = 0 by
            have := HE.out
            rw [hkl, List.drop_length] at this
            rw [← this]
            simp [ladsE])
          have HG1 : Hid (RBG wr w.heap.size w.heap.size lv (.slice none 0 0) ls []) := by
            have := HG.out
            rwa [hkl, List.take_length] at this
          have HD0 : Hid (BookD (st0 ls) [] ∧ (st0 ls).ls = ls ∧ bridgesF (st0 ls) bs = (E, st')) :=
            ⟨BookD.start (by omega) (ladsE_ok HLZ.out), rfl, by have := HF2.out; rwa [if_pos HLZ.out] at this⟩
          have HB1 := Lib.hid HB.out
          clear HG HE HB hkl
          go_wp2
          go_loopw [9] (fun t9 wx => ∃ (k : Nat) (stk : St) (bv : Value), t9 = .int .i64 k ∧ k ≤ bs.length ∧ Hid (RBG wx w.heap.size w.heap.size lv bv ls (bs.take k)) ∧ Hid (BookD stk (bs.take k) ∧ stk.ls = ls ∧ bridgesF stk (bs.drop k) = (E, st')) ∧ Hid (Below w.heap.size w wx)) (fun t9 _ => bs.length - (intOf t9).toNat)
          case atStart => exact ⟨0, st0 ls, _, rfl, by omega, HG1.out, HD0.out, HB1.out⟩
          case round =>
            clear HG1 HD0 HB1
            obtain ⟨k, stk, bv, rfl, hk, HG, HD, HB⟩ := hrel
            by_cases hlt : k < bs.length
            · obtain ⟨bb, bo, e, _, hce⟩ := HBK.out (by omega)
              subst e
              obtain ⟨x, hx⟩ : ∃ x, bs[k] = x := ⟨_, rfl⟩
              have HEX : Hid (∀ w', Below w.heap.size w w' → w'.cell? ⟨bb, bo + k * 6, none⟩ = some (.string x.A) ∧ w'.cell? ⟨bb, bo + k * 6 + 1, none⟩ = some (.string x.SA) ∧ w'.cell? ⟨bb, bo + k * 6 + 2, none⟩ = some (.string x.B) ∧ w'.cell? ⟨bb, bo + k * 6 + 3, none⟩ = some (.string x.SB) ∧ w'.cell? ⟨bb, bo + k * 6 + 4, none⟩ = some (.int .i64 x.N) ∧ w'.cell? ⟨bb, bo + k * 6 + 5, none⟩ = some (.int .i64 x.D)) := fun w' hb => by
                have g : ∀ t (ht : t < 6) u, (brV bs[k])[t]? = some u → w'.cell? ⟨bb, bo + (k * 6 + t), none⟩ = some u := fun t ht u hu => below_cell hb (hce _ _ (by rw [brsV_get hlt t ht]; exact hu))
                rw [hx] at g
                have g0 := g 0 (by decide) _ rfl
                have g1 := g 1 (by decide) _ rfl
                have g2 := g 2 (by decide) _ rfl
                have g3 := g 3 (by decide) _ rfl
                have g4 := g 4 (by decide) _ rfl
                have g5 := g 5 (by decide) _ rfl
                simp only [← Nat.add_assoc, Nat.add_zero] at g0 g1 g2 g3 g4 g5
                exact ⟨g0, g1, g2, g3, g4, g5⟩
              have HX := Lib.hid hx
              have hdrop : bs.drop k = x :: bs.drop (k + 1) := by rw [← hx]; exact List.drop_eq_getElem_cons hlt
              have hbr := HD.out.2.2
              rw [hdrop, bridgesF_cons] at hbr
              have HBR := Lib.hid hbr
              have HTK := Lib.hid (show (bs.take k).length = k by simp; omega)
              have HWR := Lib.hid (wrong_any w.heap.size lv bv stk (bs.take k) x wr (by rw [HD.out.2.1]; exact HG.out.view) HD.out.1.good (by simp; omega) HD.out.1.ok HD.out.1.sp)
              have k1 : (0 : Int) ≤ (k : Int) := by omega
              have k2 : (k : Int) < (bs.length : Int) := by omega
              obtain ⟨x0, x1, x2, x3, x4, x5⟩ := HEX.out wr HB.out
              clear hce hx hdrop hbr
              obtain ⟨q, hq⟩ : ∃ q, (bridgeF stk x).1 = q := ⟨_, rfl⟩
              rw [hq] at HWR
              have HQ := Lib.hid hq
              clear hq
              go_wp2_with fail
              go_fit HWR.out
              rintro e w1 ⟨rfl, hb1⟩
              have HB1 := Lib.hid (below_then HB.out hb1)
              have HG1 := Lib.hid (HG.out.below hb1)
              clear hb1 HWR x0 x1 x2 x3 x4 x5 HG
              by_cases hc : q = 0
              · have dc : (q != 0) = false := by simp [hc]
                have HZ := Lib.hid (HQ.out.trans hc)
                have HD1 : Hid (BookD (bridgeF stk x).2 (bs.take (k + 1)) ∧ (bridgeF stk x).2.ls = ls ∧ bridgesF (bridgeF stk x).2 (bs.drop (k + 1)) = (E, st')) := by
                  refine ⟨?_, by rw [bridgeF_ls]; exact HD.out.2.1, ?_⟩
                  · rw [List.take_succ_eq_append_getElem hlt, HX.out]; exact HD.out.1.step HZ.out
                  · have := HBR.out
                    rwa [if_pos HZ.out] at this
                clear hc
                have c0 := HG1.out.blk.cell 1 bv rfl
                have z0 := HG1.out.blk.frozen 1
                have hOB := HG1.out.brs
                rw [HTK.out] at hOB
                have HOB := Lib.hid hOB
                have hsz := HB1.out.size
                obtain ⟨x0, x1, x2, x3, x4, x5⟩ := HEX.out w1 HB1.out
                obtain ⟨V, hV⟩ : ∃ V, w1 = V := ⟨_, rfl⟩
                subst hV
                have r3 := below_cell (below_alloc' w1 (.cells #[.string x.A, .string x.SA, .string x.B, .string x.SB, .int .i64 x.N, .int .i64 x.D] 83)) c0
                clear hOB
                go_upto_region 19 with fail
                go_region_law (refine stepBriR (.tmp 76) (.tmp 81) rfl rfl (by rfl) (by rfl) (own_alloc (show World.ownsRow (World.drew w1) _ _ _ _ _ _ from HOB.out)) (Sl.new (s := 6) w1.drew 83 1 1 #[.string x.A, .string x.SA, .string x.B, .string x.SB, .int .i64 x.N, .int .i64 x.D] rfl (Nat.le_refl _) (by decide)) (by simp [Value.oneCell']) (N := k + 1) (by simp [Nat.add_mul]) (by omega) (by simp; omega) ?_; intro A4 c4 w4 hap; have HAP := Lib.hid hap; have hb4 := ((show Cel (World.drew w1) _ _ _ from HG1.out.blk).alloc (.cells #[.string x.A, .string x.SA, .string x.B, .string x.SB, .int .i64 x.N, .int .i64 x.D] 83)).keptT hap.grown (fun _ hg => own_typed (own_alloc (show World.ownsRow (World.drew w1) _ _ _ _ _ _ from HOB.out)) hg) (by decide); have q0 := hb4.cell 1 bv rfl; have q1 := hb4.frozen 1; clear hap hb4)
                all_goals (
                  obtain ⟨V4, hV4⟩ : ∃ V4, w4.setCell ⟨w.heap.size, 1, none⟩ (.slice A4 (k + 1) c4) = V4 := ⟨_, rfl⟩
                  have hw3 : Below w1.heap.size w1 (w1.drew.alloc (.cells #[.string x.A, .string x.SA, .string x.B, .string x.SB, .int .i64 x.N, .int .i64 x.D] 83)) := (below_drew (Below.refl _ _)).alloc (Nat.le_refl _) _
                  have HG4 : Hid (RBG V4 w.heap.size w.heap.size lv (.slice A4 (k + 1) c4) ls (bs.take (k + 1))) := by
                    rw [← hV4]
                    have := (HG1.out.below hw3).addBri x HAP.out (by rw [HTK.out])
                    rw [List.take_succ_eq_append_getElem hlt, HX.out]
                    exact this
                  have HB4 : Hid (Below w.heap.size w V4) := by
                    rw [← hV4]
                    have h1 : Below w.heap.size w (w1.drew.alloc (.cells #[.string x.A, .string x.SA, .string x.B, .string x.SB, .int .i64 x.N, .int .i64 x.D] 83)) := (below_drew HB1.out).alloc hsz _
                    exact (below_app h1 h1.size (own_alloc (show World.ownsRow (World.drew w1) _ _ _ _ _ _ from HOB.out)) HAP.out.grown).setCell (p := ⟨w.heap.size, 1, none⟩) (by simp) _
                  clear hw3 q0 q1 r3
                  go_wp2
                  clear hV4
                  go_roundw
                  case rel => exact ⟨k + 1, _, _, by go_num, hlt, HG4.out, HD1.out, HB4.out⟩
                  case measure => simp [intOf]; omega)
              · have dc : (q != 0) = true := by simp [hc]
                have HEE := Lib.hid (show E = q by
                  have := HBR.out
                  rw [HQ.out, if_neg hc] at this
                  injection this with this
                  exact this.symm)
                have HNZ := Lib.hid hc
                clear hc
                go_wp2
                go_ret2
                have := rnew_bad (ls := ls) (bs := bs) (st' := st') (E := E) (by rw [HEE.out]; exact HNZ.out) HB1.out
                rw [HEE.out] at this ⊢
                exact this
            · have hkb : k = bs.length := by omega
              have HEE := Lib.hid (show E = 0 ∧ st' = stk by
                have := HD.out.2.2
                rw [hkb, List.drop_length] at this
                simp [bridgesF] at this
                exact ⟨this.1.symm, this.2.symm⟩)
              have HGE : Hid (RBG wr w.heap.size w.heap.size lv bv ls bs) := by
                have := HG.out
                rwa [hkb, List.take_length] at this
              have HDE : Hid (BookD stk bs) := by
                have := HD.out.1
                rwa [hkb, List.take_length] at this
              have HLS := Lib.hid HD.out.2.1
              clear hkb
              go_wp2
              go_ret2
              refine ⟨_, by rw [HEE.out.1] <;> rfl, HB.out, fun h => absurd HEE.out.1 h, fun _ => ⟨_, lv, bv, rfl, HGE.out.view, by rw [HEE.out.2]; exact HDE.out, by rw [HEE.out.2]; exact HLS.out⟩⟩
end Go.Proofs.YtmibpncmebhbjaaDoor
