/- The walk of metro's multiplied: a list of ratios. -/
import Derived.Test.YtmibpncmebhbjaaDoorMul1
import Derived.Deep.RegionLaw
import Derived.Test.YtmibpncmebhbjaaDoorVal3
namespace Go.Proofs.YtmibpncmebhbjaaDoor
open Go Go.RowKit Go.Shelf
attribute [local go_sem] Oper.semAt_some rrV

theorem sizeN (n : Int) (w : World) (h : Bd n) : Calls Tryd.prog 86 #[.int .i64 n] w fun e w' => e = .returned (.int .u64 (n.natAbs : Int)) ∧ w = w' := size_any n w h.1 h.2

theorem own_lt {w : World} {base : Nat} {e : TypeId} {size n : Nat} {v : Value} {xs : List Value} (h : w.ownsRow base e size v n xs) {g : Nat} (hg : v.ownBlock = some g) : g < w.heap.size := by
  obtain ⟨hl, ⟨rfl, rfl⟩ | ⟨g', cap, cur, rfl, hb, hh, r⟩⟩ := h
  · simp [Value.ownBlock] at hg
  · simp only [Value.ownBlock] at hg
    cases hg
    exact (Array.getElem?_eq_some_iff.1 hh).1

set_option maxRecDepth 100000 in
set_option maxHeartbeats 4000000 in
theorem multiplied_any (l : List (Int × Int)) (A : Option Addr) (c : Nat) (w : World) (hz : Zw w) (hl : Sl w 2 (.slice A l.length c) (rsV l)) (hr : isRs l) (hlen : l.length ≤ 1000000) :
    Calls Tryd.prog 115 #[.slice A l.length c] w fun e w' => e = .returned (rrV (fit (prodQ l))) ∧ Below w.heap.size w w' := by
  obtain ⟨_, _, _, e, _, hlc, hcm, hcl⟩ := hl.open2 (by decide)
  cases e
  have HC := Lib.hid hcl
  have HR := Lib.hid hr
  have HZ := Lib.hid hz
  clear hl hcl hr hz
  have Y0 := (Cel.new w 23 #[.int .i64 0, .int .i64 0]).alloc (.cells #[.slice none 0 0, .slice none 0 0] 121)
  have Y1 := Cel.at (w.alloc (.cells #[.int .i64 0, .int .i64 0] 23)) (w.heap.size + 1) 121 #[.slice none 0 0, .slice none 0 0] (by simp)
  have hw0 : Below w.heap.size w ((w.alloc (.cells #[.int .i64 0, .int .i64 0] 23)).alloc (.cells #[.slice none 0 0, .slice none 0 0] 121)) := (below_alloc' _ _).alloc (by simp) _
  go_enter Tryd.func115, Tryd.ntmps115
  go_wp2
  obtain ⟨W, hW⟩ : ∃ W, (w.alloc (.cells #[.int .i64 0, .int .i64 0] 23)).alloc (.cells #[.slice none 0 0, .slice none 0 0] 121) = W := ⟨_, rfl⟩
  rw [hW] at Y0 Y1 hw0 ⊢
  clear hW
  go_loopw [5, 10] (fun tn ti wr => ∃ (k : Nat) (up dn : Value), ti = .int .i64 k ∧ k ≤ l.length ∧ tn = .bool (negL (l.take k)) ∧ (∀ j (hj : j < l.length), j < k → l[j].1 ≠ 0) ∧ Cel wr w.heap.size 23 #[.int .i64 0, .int .i64 0] ∧ Cel wr (w.heap.size + 1) 121 #[up, dn] ∧
    wr.ownsRow (w.heap.size + 1 + 1) 117 1 up k (u64s (upL (l.take k))) ∧ wr.ownsRow (w.heap.size + 1 + 1) 117 1 dn k (u64s (dnL (l.take k))) ∧ (∀ g, up.ownBlock = some g → dn.ownBlock ≠ some g) ∧ Below w.heap.size w wr) (fun _ ti _ => l.length - (intOf ti).toNat)
  case atStart => exact ⟨0, _, _, rfl, by omega, rfl, fun j _ h => by omega, Y0, Y1, World.ownsRow_nil _ _ _ _, World.ownsRow_nil _ _ _ _, fun g h => by simp [Value.ownBlock] at h, hw0⟩
  case round =>
    obtain ⟨k, up, dn, rfl, hk, rfl, hne, hY0, hY1, hup, hdn, hdis, hB⟩ := hrel
    clear Y0 Y1 hw0
    have HN := Lib.hid hne
    have HY0 := Lib.hid hY0
    have HY1 := Lib.hid hY1
    have HUP := Lib.hid hup
    have HDN := Lib.hid hdn
    have HD := Lib.hid hdis
    have HB := Lib.hid hB
    have hY1l := hY1.lt
    have hsz := hB.size
    by_cases hlt : k < l.length
    · obtain ⟨b, o, e, _, hce⟩ := HC.out (by omega)
      subst e
      obtain ⟨g0, g1⟩ := rsV_get hlt
      have e0 := below_cell hB (hce _ _ g0)
      have e1 := below_cell hB (hce _ _ g1)
      rw [← Nat.add_assoc] at e1
      have hrk := HR.out l[k] (List.getElem_mem _)
      have hbd := isR_bd hrk
      have HPZ := Lib.hid (fun h => prodQ_zero hlt h)
      have HNT := Lib.hid (show negL (l.take (k + 1)) = (negL (l.take k) != decide (l[k].1 < 0)) by rw [List.take_succ_eq_append_getElem hlt, negL_snoc])
      have HUT := Lib.hid (show upL (l.take (k + 1)) = upL (l.take k) ++ [l[k].1.natAbs] by rw [List.take_succ_eq_append_getElem hlt]; unfold upL; rw [List.map_append]; rfl)
      have HDT := Lib.hid (show dnL (l.take (k + 1)) = dnL (l.take k) ++ [l[k].2.natAbs] by rw [List.take_succ_eq_append_getElem hlt]; unfold dnL; rw [List.map_append]; rfl)
      have HLK : Hid (l[k].1 ≠ 0 → ∀ j (hj : j < l.length), j < k + 1 → l[j].1 ≠ 0) := fun h0 j hj hjk => by
        by_cases e : j = k
        · subst e; exact h0
        · exact HN.out j hj (by omega)
      clear hce g0 g1 hrk hY0 hY1 hup hdn hdis hne
      generalize l[k] = r at *
      obtain ⟨N, D⟩ := r
      simp only at e0 e1 hbd HPZ HNT HUT HDT HLK
      obtain ⟨d1, d2, n1, n2⟩ := hbd
      by_cases h0 : N = 0
      · have HF := Lib.hid (show fit (prodQ l) = ⟨0, 1, 0⟩ by rw [HPZ.out h0]; exact fit_zero)
        subst h0
        obtain ⟨z0, z1⟩ := HZ.out.below (hB.alloc hsz (.cells #[.int .i64 0, .int .i64 D] 23))
        have hYr := Cel.new wr 23 #[.int .i64 0, .int .i64 D]
        have r0 := hYr.cell 0 (.int .i64 0) rfl
        have hX0 := HY0.out.alloc (.cells #[.int .i64 0, .int .i64 D] 23)
        have q0 := hX0.cell 0 (.int .i64 0) rfl
        have q1 := hX0.cell 1 (.int .i64 0) rfl
        have f0 := hX0.frozen 0
        have f1 := hX0.frozen 1
        have k5 := hX0.set2 (.int .i64 0) (.int .i64 1)
        have s0 := k5.cell 0 (.int .i64 0) rfl
        have s1 := k5.cell 1 (.int .i64 1) rfl
        go_wp2
        exact bodyPost_ret (v := .tuple #[.agg #[.int .i64 0, .int .i64 1], .int .i64 0]) (by simp [results, Tryd.results115, go_sem, s0, s1]) rfl
          ⟨by rw [HF.out] <;> rfl, ((HB.out.alloc HB.out.size _).setCell (p := ⟨w.heap.size, 0, none⟩) (by simp) _).setCell (p := ⟨w.heap.size, 1, none⟩) (by simp) _⟩
      · have b0 : (N == 0) = false := by simpa using h0
        have HN0 := Lib.hid (HLK.out h0)
        clear h0
        have bN : Bd N := by unfold Bd; omega
        have bD : Bd D := by unfold Bd; omega
        have hYr := Cel.new wr 23 #[.int .i64 N, .int .i64 D]
        have hX0 := HY0.out.alloc (.cells #[.int .i64 N, .int .i64 D] 23)
        have hX1 := HY1.out.alloc (.cells #[.int .i64 N, .int .i64 D] 23)
        have hU1 := HUP.out.alloc (.cells #[.int .i64 N, .int .i64 D] 23)
        have hD1 := HDN.out.alloc (.cells #[.int .i64 N, .int .i64 D] 23)
        have hBV := hB.alloc hsz (.cells #[.int .i64 N, .int .i64 D] 23)
        have r0 := hYr.cell 0 (.int .i64 N) rfl
        go_upto_region 8 with fail
        obtain ⟨V, hV⟩ : ∃ V, wr.alloc (.cells #[.int .i64 N, .int .i64 D] 23) = V := ⟨_, rfl⟩
        rw [hV] at hYr hX0 hX1 hU1 hD1 hBV r0 ⊢
        have hVs : V.heap.size = wr.heap.size + 1 := by rw [← hV]; simp
        clear hV
        have r1 := hYr.cell 1 (.int .i64 D) rfl
        have q0 := hX1.cell 0 up rfl
        have q1 := hX1.cell 1 dn rfl
        obtain ⟨Au, cu, rfl, hU1⟩ := own_shape hU1
        obtain ⟨Ad, cd, rfl, hD1⟩ := own_shape hD1
        have HX0 := Lib.hid hX0
        have HX1 := Lib.hid hX1
        have HYR := Lib.hid hYr
        have HU := Lib.hid hU1
        have HDn := Lib.hid hD1
        have HBV := Lib.hid hBV
        have HDis : Hid (∀ g, (Value.slice Au k cu).ownBlock = some g → (Value.slice Ad k cd).ownBlock ≠ some g) := HD
        have HNRu : Hid ((Value.slice Au k cu).ownBlock ≠ some wr.heap.size) := fun e => by
          have := own_lt HUP.out e
          omega
        have HNRd : Hid ((Value.slice Ad k cd).ownBlock ≠ some wr.heap.size) := fun e => by
          have := own_lt HDN.out e
          omega
        have hXl := hX1.lt
        have hVs2 := hBV.size
        have HVs := Lib.hid hVs
        clear hX0 hX1 hYr hU1 hD1 hBV hVs
        have cA := ((show Cel (World.drew V) _ _ _ from HX1.out).alloc (.cells #[.int .u64 (N.natAbs : Int)] 117)).cell 0 _ rfl
        go_cut [] (fun wx => ∃ (Wx : World) (A1 : Option Addr) (c1 : Nat), Wx = wx ∧ Cel wx (w.heap.size + 1) 121 #[.slice A1 (k + 1) c1, .slice Ad k cd] ∧ wx.ownsRow (w.heap.size + 1 + 1) 117 1 (.slice A1 (k + 1) c1) (k + 1) (u64s (upL (l.take k)) ++ [.int .u64 (N.natAbs : Int)]) ∧ wx.ownsRow (w.heap.size + 1 + 1) 117 1 (.slice Ad k cd) k (u64s (dnL (l.take k))) ∧ (∀ g, (Value.slice A1 (k + 1) c1).ownBlock = some g → (Value.slice Ad k cd).ownBlock ≠ some g) ∧ (Value.slice Ad k cd).ownBlock ≠ some wr.heap.size ∧ (Value.slice A1 (k + 1) c1).ownBlock ≠ some wr.heap.size ∧ Cel wx wr.heap.size 23 #[.int .i64 N, .int .i64 D] ∧ Cel wx w.heap.size 23 #[.int .i64 0, .int .i64 0] ∧ Below w.heap.size w wx)
        case first =>
          go_region_law (first
            | (go_simp; go_at_call 86; refine (sizeN N _ bN).mono ?_; rintro e w' ⟨rfl, rfl⟩)
            | (refine stepU64 (.tmp 19) (.tmp 23) rfl rfl (by rfl) (by rfl) (own_alloc (show World.ownsRow (World.drew _) _ _ _ _ _ _ from HU.out)) (Sl.new (s := 1) _ 117 1 1 #[.int .u64 (N.natAbs : Int)] rfl (Nat.le_refl _) (by decide)) (by simp [Value.oneCell']) (N := k + 1) (by simp) (by omega) (by have := HBV.out.size; have := HX1.out.lt; simp; omega) ?_; intro A1 c1 w1 hap; have hA := own_alloc (o := .cells #[.int .u64 (N.natAbs : Int)] 117) (show World.ownsRow (World.drew V) _ _ _ _ _ _ from HU.out); have hO := own_keep (own_alloc (o := .cells #[.int .u64 (N.natAbs : Int)] 117) (show World.ownsRow (World.drew V) _ _ _ _ _ _ from HDn.out)) hap.grown (fun g h1 h2 => HDis.out g h2 h1); have x1 := ((show Cel (World.drew V) _ _ _ from HX1.out).alloc (.cells #[.int .u64 (N.natAbs : Int)] 117)).kept hap.grown (fun e => by have := own_ge hA e.symm; omega); have x0 := ((show Cel (World.drew V) _ _ _ from HX0.out).alloc (.cells #[.int .u64 (N.natAbs : Int)] 117)).kept hap.grown (fun e => by have := own_ge hA e.symm; omega); have yr := ((show Cel (World.drew V) _ _ _ from HYR.out).alloc (.cells #[.int .u64 (N.natAbs : Int)] 117)).kept hap.grown (fun e => by exact HNRu.out e.symm); have hb1 := below_of_own hap.grown hA ((below_drew HBV.out).alloc HBV.out.size (.cells #[.int .u64 (N.natAbs : Int)] 117)) (by omega); have g1 := x1.frozen 0; have j1 := x1.cell 0 _ rfl; have HOW := Lib.hid hap.own; have HOO := Lib.hid hO; have HBK := Lib.hid hap.block; have HX1' := Lib.hid x1; have HX0' := Lib.hid x0; have HYR' := Lib.hid yr; have HB1 := Lib.hid hb1; clear hA hO hap x1 x0 yr hb1))
          all_goals (
            go_wp2
            have hnb : (Value.slice A1 (k + 1) c1).ownBlock ≠ some wr.heap.size := by
              rcases HBK.out with e | e
              · rw [e]; exact HNRu.out
              · rw [e]; intro e'; injection e' with e'; have := HVs.out; simp at e'; omega
            have hds : ∀ g, (Value.slice A1 (k + 1) c1).ownBlock = some g → (Value.slice Ad k cd).ownBlock ≠ some g := by
              rcases HBK.out with e | e
              · rw [e]; exact HDis.out
              · rw [e]; intro g e' e''; injection e' with e'; subst e'; have := own_lt HDn.out e''; simp at this; omega
            have hna : (Value.slice A1 (k + 1) c1).ownBlock ≠ some (w.heap.size + 1) := fun e => by have := own_ge HOW.out e; omega
            have hnd : (Value.slice Ad k cd).ownBlock ≠ some (w.heap.size + 1) := fun e => by have := own_ge HOO.out e; omega
            go_meet
            exact ⟨_, A1, c1, rfl, HX1'.out.setAt 0 _, own_ne HOW.out (p := ⟨w.heap.size + 1, 0, none⟩) hna _, own_ne HOO.out (p := ⟨w.heap.size + 1, 0, none⟩) hnd _, hds, HNRd.out, hnb, HYR'.out.other (by simp; omega) _, HX0'.out.other (by simp) _, HB1.out.setCell (p := ⟨w.heap.size + 1, 0, none⟩) (by simp) _⟩)
        case rest =>
          obtain ⟨V1, A1, c1, rfl, hX1, hU1, hD1, hDis, hNd, hNu, hYr, hX0, hBV⟩ := hcut
          clear HX0 HX1 HYR HU HDn HBV HDis HNRu HNRd hXl hVs2 cA q0 q1 r0 r1 HVs
          have r0 := hYr.cell 0 (.int .i64 N) rfl
          have r1 := hYr.cell 1 (.int .i64 D) rfl
          have q0 := hX1.cell 0 _ rfl
          have q1 := hX1.cell 1 _ rfl
          have HX0 := Lib.hid hX0
          have HX1 := Lib.hid hX1
          have HYR := Lib.hid hYr
          have HU := Lib.hid hU1
          have HDn := Lib.hid hD1
          have HBV := Lib.hid hBV
          have HDis := Lib.hid hDis
          have HNRu := Lib.hid hNu
          have HNRd := Lib.hid hNd
          have hXl := hX1.lt
          have hYl := hYr.lt
          have hVs2 := hBV.size
          clear hX0 hX1 hYr hU1 hD1 hBV hDis hNd hNu
          have cA := ((show Cel (World.drew V1) _ _ _ from HX1.out).alloc (.cells #[.int .u64 (D.natAbs : Int)] 117)).cell 1 _ rfl
          go_upto_region 9 with fail
          go_cut [] (fun wx => ∃ (Wx : World) (A2 : Option Addr) (c2 : Nat), Wx = wx ∧ Cel wx (w.heap.size + 1) 121 #[.slice A1 (k + 1) c1, .slice A2 (k + 1) c2] ∧ wx.ownsRow (w.heap.size + 1 + 1) 117 1 (.slice A1 (k + 1) c1) (k + 1) (u64s (upL (l.take k)) ++ [.int .u64 (N.natAbs : Int)]) ∧ wx.ownsRow (w.heap.size + 1 + 1) 117 1 (.slice A2 (k + 1) c2) (k + 1) (u64s (dnL (l.take k)) ++ [.int .u64 (D.natAbs : Int)]) ∧ (∀ g, (Value.slice A1 (k + 1) c1).ownBlock = some g → (Value.slice A2 (k + 1) c2).ownBlock ≠ some g) ∧ Cel wx wr.heap.size 23 #[.int .i64 N, .int .i64 D] ∧ Cel wx w.heap.size 23 #[.int .i64 0, .int .i64 0] ∧ Below w.heap.size w wx)
          case first =>
            go_region_law (first
              | (go_simp; go_at_call 86; refine (sizeN D _ bD).mono ?_; rintro e w' ⟨rfl, rfl⟩)
              | (refine stepU64 (.tmp 27) (.tmp 31) rfl rfl (by rfl) (by rfl) (own_alloc (show World.ownsRow (World.drew _) _ _ _ _ _ _ from HDn.out)) (Sl.new (s := 1) _ 117 1 1 #[.int .u64 (D.natAbs : Int)] rfl (Nat.le_refl _) (by decide)) (by simp [Value.oneCell']) (N := k + 1) (by simp) (by omega) (by have := HBV.out.size; have := HX1.out.lt; simp; omega) ?_; intro A2 c2 w1 hap; have hA := own_alloc (o := .cells #[.int .u64 (D.natAbs : Int)] 117) (show World.ownsRow (World.drew V1) _ _ _ _ _ _ from HDn.out); have hO := own_keep (own_alloc (o := .cells #[.int .u64 (D.natAbs : Int)] 117) (show World.ownsRow (World.drew V1) _ _ _ _ _ _ from HU.out)) hap.grown (fun g h1 h2 => (fun g h1 h2 => HDis.out g h2 h1) g h2 h1); have x1 := ((show Cel (World.drew V1) _ _ _ from HX1.out).alloc (.cells #[.int .u64 (D.natAbs : Int)] 117)).kept hap.grown (fun e => by have := own_ge hA e.symm; omega); have x0 := ((show Cel (World.drew V1) _ _ _ from HX0.out).alloc (.cells #[.int .u64 (D.natAbs : Int)] 117)).kept hap.grown (fun e => by have := own_ge hA e.symm; omega); have yr := ((show Cel (World.drew V1) _ _ _ from HYR.out).alloc (.cells #[.int .u64 (D.natAbs : Int)] 117)).kept hap.grown (fun e => by exact HNRd.out e.symm); have hb1 := below_of_own hap.grown hA ((below_drew HBV.out).alloc HBV.out.size (.cells #[.int .u64 (D.natAbs : Int)] 117)) (by omega); have g1 := x1.frozen 1; have j1 := x1.cell 1 _ rfl; have HOW := Lib.hid hap.own; have HOO := Lib.hid hO; have HBK := Lib.hid hap.block; have HX1' := Lib.hid x1; have HX0' := Lib.hid x0; have HYR' := Lib.hid yr; have HB1 := Lib.hid hb1; clear hA hO hap x1 x0 yr hb1))
            all_goals (
              go_wp2
              have hds : ∀ g, (Value.slice A1 (k + 1) c1).ownBlock = some g → (Value.slice A2 (k + 1) c2).ownBlock ≠ some g := by
                rcases HBK.out with e | e
                · rw [e]; exact HDis.out
                · rw [e]; intro g e' e''; injection e'' with e''; subst e''; have := own_lt HU.out e'; simp at this; omega
              have hna : (Value.slice A2 (k + 1) c2).ownBlock ≠ some (w.heap.size + 1) := fun e => by have := own_ge HOW.out e; omega
              have hnd : (Value.slice A1 (k + 1) c1).ownBlock ≠ some (w.heap.size + 1) := fun e => by have := own_ge HOO.out e; omega
              go_meet
              exact ⟨_, A2, c2, rfl, HX1'.out.setAt 1 _, own_ne HOO.out (p := ⟨w.heap.size + 1, 1, none⟩) hnd _, own_ne HOW.out (p := ⟨w.heap.size + 1, 1, none⟩) hna _, hds, HYR'.out.other (by simp; omega) _, HX0'.out.other (by simp) _, HB1.out.setCell (p := ⟨w.heap.size + 1, 1, none⟩) (by simp) _⟩)
          case rest =>
            obtain ⟨wx, A2, c2, rfl, hX1, hU1, hD1, hDis, hYr, hX0, hBV⟩ := hcut
            clear HX0 HX1 HYR HU HDn HBV HDis HNRu HNRd hXl hYl hVs2 cA q0 q1 r0 r1
            have r0 := hYr.cell 0 (.int .i64 N) rfl
            have HR1 : Hid (wx.ownsRow (w.heap.size + 1 + 1) 117 1 (.slice A1 (k + 1) c1) (k + 1) (u64s (upL (l.take (k + 1)))) ∧ wx.ownsRow (w.heap.size + 1 + 1) 117 1 (.slice A2 (k + 1) c2) (k + 1) (u64s (dnL (l.take (k + 1)))) ∧ (∀ g, (Value.slice A1 (k + 1) c1).ownBlock = some g → (Value.slice A2 (k + 1) c2).ownBlock ≠ some g) ∧ Below w.heap.size w wx ∧ Cel wx (w.heap.size + 1) 121 #[.slice A1 (k + 1) c1, .slice A2 (k + 1) c2] ∧ Cel wx w.heap.size 23 #[.int .i64 0, .int .i64 0]) := by
              rw [HUT.out, HDT.out]
              exact ⟨by simpa [u64s] using hU1, by simpa [u64s] using hD1, hDis, hBV, hX1, hX0⟩
            clear hX1 hU1 hD1 hDis hYr hX0 hBV
            go_wp2
            go_roundw
            case rel =>
              obtain ⟨x1, x2, x3, x4, x5, x6⟩ := HR1.out
              exact ⟨k + 1, _, _, by simp, hlt, by rw [HNT.out]; generalize negL (l.take k) = x1; generalize decide (N < 0) = x2; cases x1 <;> cases x2 <;> rfl, HN0.out, x6, x5, x1, x2, x3, x4⟩
            case measure => simp [intOf]; omega
    · have e : k = l.length := by omega
      have HNA := Lib.hid (show ∀ r ∈ l, r.1 ≠ 0 by
        intro r hr
        obtain ⟨j, hj, rfl⟩ := List.mem_iff_getElem.1 hr
        exact HN.out j hj (by omega))
      have HTK := Lib.hid (show l.take k = l from List.take_of_length_le (by omega))
      have HEK := Lib.hid e
      clear e hne
      obtain ⟨Au, cu, rfl, hU1⟩ := own_shape hup
      obtain ⟨Ad, cd, rfl, hD1⟩ := own_shape hdn
      have HPR : Hid (Pr wr (.agg #[.slice Au k cu, .slice Ad k cd]) (upL l) (dnL l)) := by
        have h1 := Sl.of_own hU1
        have h2 := Sl.of_own hD1
        rw [HTK.out] at h1 h2
        exact ⟨_, _, rfl, h1, h2⟩
      have HX0 := HY0
      have q0 := hY1.cell 0 _ rfl
      have q1 := hY1.cell 1 _ rfl
      clear hY0 hY1 hup hdn hdis hU1 hD1
      have HV := Lib.hid (val_ratio HR.out HNA.out)
      have hc := pratio_any _ _ _ (negL l) wr HPR.out (onesU HR.out HNA.out) (onesD HR.out) (by simp [upL]; omega) (by simp [dnL]; omega)
      rw [HV.out, ← HTK.out] at hc
      have HC := hc
      clear hc
      go_wp2_with fail
      go_fit HC
      rintro e w1 ⟨rfl, hb1⟩
      rw [HTK.out]
      have hX0 : Cel w1 w.heap.size 23 #[.int .i64 0, .int .i64 0] := HX0.out.below (by have := HB.out.size; have := HX0.out.lt; omega) hb1
      have HBB := Lib.hid (HB.out.trans (hb1.mono (by have := HB.out.size; omega)))
      have r0 := hX0.cell 0 (.int .i64 0) rfl
      have r1 := hX0.cell 1 (.int .i64 0) rfl
      have f0 := hX0.frozen 0
      have f1 := hX0.frozen 1
      obtain ⟨r, hr⟩ : ∃ r, fit (prodQ l) = r := ⟨_, rfl⟩
      rw [hr]
      have HRR := Lib.hid hr
      clear hr
      have k5 := hX0.set2 (.int .i64 r.n) (.int .i64 r.d)
      have s0 := k5.cell 0 (.int .i64 r.n) rfl
      have s1 := k5.cell 1 (.int .i64 r.d) rfl
      clear HV HX0 hX0 HB hB HC
      go_wp2
      exact bodyPost_ret (v := .tuple #[.agg #[.int .i64 r.n, .int .i64 r.d], .int .i64 r.e]) (by simp [results, Tryd.results115, go_sem, s0, s1]) rfl
        ⟨by rw [HRR.out] <;> rfl, (HBB.out.setCell (p := ⟨w.heap.size, 0, none⟩) (by simp) _).setCell (p := ⟨w.heap.size, 1, none⟩) (by simp) _⟩
end Go.Proofs.YtmibpncmebhbjaaDoor
