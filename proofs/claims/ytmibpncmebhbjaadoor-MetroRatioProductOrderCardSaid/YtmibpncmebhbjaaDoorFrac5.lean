/- The reference's Product. -/
import Derived.Test.YtmibpncmebhbjaaDoorFrac4
namespace Go.Proofs.YtmibpncmebhbjaaDoor
open Go Go.RowKit Go.Shelf
attribute [local go_sem] Oper.semAt_some rrV

theorem FrO.new {w : World} (neg : Bool) : FrO (w.alloc (.cells #[.bool neg, .slice none 0 0, .slice none 0 0] 150)) (w.heap.size + 1) w.heap.size neg [] [] :=
  ⟨_, _, Cel.new w _ _, by omega, World.ownsRow_nil _ _ _ _, World.ownsRow_nil _ _ _ _, fun g h => by simp [Value.ownBlock] at h⟩

set_option maxRecDepth 100000 in
set_option maxHeartbeats 2000000 in
theorem rProduct_any (l : List (Int × Int)) (v : Value) (w : World) (hv : Sl w 2 v (rsV l)) (hbd : BdL l) :
    Calls Tryd.prog 61 #[v] w fun e w' => e = .returned (rrV (prodE l)) ∧ Below w.heap.size w w' := by
  obtain ⟨A, n, c, rfl, hlc, hcm, hcM, hcl⟩ := hv.open2 (by decide)
  rw [rsV_length] at hlc
  obtain rfl : n = l.length := by omega
  clear hlc
  have HV := Lib.hid hv
  have HC := Lib.hid hcl
  have HBD := Lib.hid hbd
  have hX := Cel.new w 23 #[.int .i64 0, .int .i64 0]
  have hw0 := below_alloc' w (.cells #[.int .i64 0, .int .i64 0] 23)
  clear hv hcl hbd
  by_cases hlong : 64 < l.length
  · have HF := Lib.hid (prodE_long hlong)
    have d1 : decide ((64 : Int) < (l.length : Int)) = true := decide_eq_true (by omega)
    have r0 := hX.cell 0 (.int .i64 0) rfl
    have r1 := hX.cell 1 (.int .i64 0) rfl
    have f0 := hX.frozen 0
    have f1 := hX.frozen 1
    go_enter Tryd.func61, Tryd.ntmps61
    go_wp2
    exact bodyPost_ret (v := .tuple #[.agg #[.int .i64 0, .int .i64 0], .int .i64 3]) (by simp [results, Tryd.results61, go_sem]) rfl ⟨by rw [HF.out] <;> rfl, by first | exact hw0 | exact (hw0.setCell (p := ⟨w.heap.size, 0, none⟩) (by simp) _).setCell (p := ⟨w.heap.size, 1, none⟩) (by simp) _⟩
  · have d1 : decide ((64 : Int) < (l.length : Int)) = false := decide_eq_false (by omega)
    have HG := Lib.hid (fun h => prodE_good hlong h)
    have HBad := Lib.hid (fun h => prodE_bad hlong h)
    have hl64 : l.length ≤ 64 := by omega
    clear hlong
    go_enter Tryd.func61, Tryd.ntmps61
    go_wp2
    obtain ⟨W, hW⟩ : ∃ W, w.alloc (.cells #[.int .i64 0, .int .i64 0] 23) = W := ⟨_, rfl⟩
    rw [hW] at hX hw0 ⊢
    clear hW
    go_loopw [4, 5] (fun z i wr => ∃ (k : Nat), i = .int .i64 k ∧ k ≤ l.length ∧ z = .bool (anyZ (l.take k)) ∧ (∀ j (hj : j < l.length), j < k → isR l[j].1 l[j].2 = true) ∧ Cel wr w.heap.size 23 #[.int .i64 0, .int .i64 0] ∧ Below w.heap.size w wr) (fun _ i _ => l.length - (intOf i).toNat)
    case atStart => exact ⟨0, rfl, by omega, rfl, fun j _ h => by omega, hX, hw0⟩
    case round =>
      clear hX hw0
      obtain ⟨k, rfl, hk, rfl, hall, hX, hB⟩ := hrel
      have HA := Lib.hid hall
      have HX := Lib.hid hX
      have HB := Lib.hid hB
      by_cases hlt : k < l.length
      · obtain ⟨b, o, e, _, hce⟩ := HC.out (by omega)
        subst e
        obtain ⟨g0, g1⟩ := rsV_get hlt
        have e0' := hce _ _ g0
        have e1' := hce _ _ g1
        rw [← Nat.add_assoc] at e1'
        obtain ⟨bN, bD⟩ := HBD.out l[k] (List.getElem_mem _)
        have HK1 : Hid (isR l[k].1 l[k].2 = true → ∀ j (hj : j < l.length), j < k + 1 → isR l[j].1 l[j].2 = true) := fun h0 j hj hjk => by
          by_cases e : j = k
          · subst e; exact h0
          · exact HA.out j hj (by omega)
        have HK2 : Hid (isR l[k].1 l[k].2 = false → isRsB l = false) := fun h => isRsB_bad hlt h
        have HK3 := Lib.hid (show anyZ (l.take (k + 1)) = (anyZ (l.take k) || (l[k].1 == 0)) by rw [take_snocP hlt, anyZ_snoc])
        clear hce g0 g1 hall hX
        generalize l[k] = r at *
        obtain ⟨N, D⟩ := r
        simp only at e0' e1' bN bD HK1 HK2 HK3
        have hsz := hB.size
        have e0 := below_cell hB e0'
        have e1 := below_cell hB e1'
        have HE := Lib.hid (And.intro e0' e1')
        clear e0' e1' hB
        obtain ⟨z, hz⟩ : ∃ z, anyZ (l.take k) = z := ⟨_, rfl⟩
        rw [hz] at HK3 ⊢
        clear hz
        go_wp2_with fail
        have hc := risRatio_any N D wr bN.1 bN.2 bD.1 bD.2
        cases hR : isR N D with
        | true =>
          rw [hR] at hc
          go_fit hc
          rintro e w2 ⟨rfl, hb2⟩
          have HAA := Lib.hid (HK1.out hR)
          have HX2 := Lib.hid (HX.out.below HX.out.lt hb2)
          have hB2 := HB.out.trans (hb2.mono hsz)
          have e0 := below_cell hB2 HE.out.1
          have e1 := below_cell hB2 HE.out.2
          have HB2 := Lib.hid hB2
          clear hc hb2 hR hB2
          cases z with
          | true =>
            go_wp2
            go_roundw
            case rel => exact ⟨k + 1, by go_num, hlt, by rw [HK3.out]; rfl, HAA.out, HX2.out, HB2.out⟩
            case measure => simp [intOf]; omega
          | false =>
            go_wp2
            go_roundw
            case rel => exact ⟨k + 1, by go_num, hlt, by rw [HK3.out]; rfl, HAA.out, HX2.out, HB2.out⟩
            case measure => simp [intOf]; omega
        | false =>
          rw [hR] at hc
          go_fit hc
          rintro e w2 ⟨rfl, hb2⟩
          have HF := Lib.hid (HBad.out (HK2.out hR))
          have hX2 := HX.out.below HX.out.lt hb2
          have HB2 := Lib.hid (HB.out.trans (hb2.mono hsz))
          have r0 := hX2.cell 0 (.int .i64 0) rfl
          have r1 := hX2.cell 1 (.int .i64 0) rfl
          have f0 := hX2.frozen 0
          have f1 := hX2.frozen 1
          have k5 := hX2.set2 (.int .i64 0) (.int .i64 0)
          have s0 := k5.cell 0 (.int .i64 0) rfl
          have s1 := k5.cell 1 (.int .i64 0) rfl
          clear hc hb2 hR hX2 k5
          go_wp2
          exact bodyPost_ret (v := .tuple #[.agg #[.int .i64 0, .int .i64 0], .int .i64 2]) (by simp [results, Tryd.results61, go_sem, s0, s1]) rfl
            ⟨by rw [HF.out] <;> rfl, (HB2.out.setCell (p := ⟨w.heap.size, 0, none⟩) (by simp) _).setCell (p := ⟨w.heap.size, 1, none⟩) (by simp) _⟩
      · have HRS := Lib.hid (show isRs l from fun r hr => by
          obtain ⟨j, hj, rfl⟩ := List.mem_iff_getElem.1 hr
          exact HA.out j hj (by omega))
        have HTK := Lib.hid (show l.take k = l from List.take_of_length_le (by omega))
        rw [HTK.out]
        have HF := Lib.hid (HG.out (isRsB_iff.2 HRS.out))
        have hsz := hB.size
        clear hall
        cases hzz : anyZ l with
        | true =>
          have HQ := Lib.hid (show fit (prodQ l) = ⟨0, 1, 0⟩ by rw [anyZ_yes hzz]; exact fit_zero)
          have r0 := hX.cell 0 (.int .i64 0) rfl
          have r1 := hX.cell 1 (.int .i64 0) rfl
          have f0 := hX.frozen 0
          have f1 := hX.frozen 1
          have k5 := hX.set2 (.int .i64 0) (.int .i64 1)
          have s0 := k5.cell 0 (.int .i64 0) rfl
          have s1 := k5.cell 1 (.int .i64 1) rfl
          clear hzz hX k5 hB
          go_wp2
          exact bodyPost_ret (v := .tuple #[.agg #[.int .i64 0, .int .i64 1], .int .i64 0]) (by simp [results, Tryd.results61, go_sem, s0, s1]) rfl
            ⟨by rw [HF.out, HQ.out] <;> rfl, (HB.out.setCell (p := ⟨w.heap.size, 0, none⟩) (by simp) _).setCell (p := ⟨w.heap.size, 1, none⟩) (by simp) _⟩
        | false =>
          have HNZ := Lib.hid (anyZ_no hzz)
          have HFR := Lib.hid (FrO.new (w := wr) false)
          have HX1 := Lib.hid (hX.alloc (.cells #[.bool false, .slice none 0 0, .slice none 0 0] 150))
          have HB1 := Lib.hid (hB.alloc hsz (.cells #[.bool false, .slice none 0 0, .slice none 0 0] 150))
          have hXl := hX.lt
          clear hzz hX hB
          go_wp2
          obtain ⟨V, hV⟩ : ∃ V, wr.alloc (.cells #[.bool false, .slice none 0 0, .slice none 0 0] 150) = V := ⟨_, rfl⟩
          rw [hV] at HFR HX1 HB1 ⊢
          have hVs : wr.heap.size + 1 ≤ V.heap.size := by rw [← hV]; simp
          clear hV
          obtain ⟨Bf, hBf⟩ : ∃ Bf, wr.heap.size = Bf := ⟨_, rfl⟩
          rw [hBf] at HFR hVs hXl ⊢
          have HBf := Lib.hid hBf
          clear hBf
          go_loopw [7] (fun i wq => ∃ (k : Nat), i = .int .i64 k ∧ k ≤ l.length ∧ Hid (FrO wq (Bf + 1) Bf (negL (l.take k)) (upL (l.take k)) (dnL (l.take k))) ∧ Cel wq w.heap.size 23 #[.int .i64 0, .int .i64 0] ∧ Below w.heap.size w wq ∧ Bf + 1 ≤ wq.heap.size) (fun i _ => l.length - (intOf i).toNat)
          case atStart => exact ⟨0, rfl, by omega, HFR, HX1.out, HB1.out, hVs⟩
          case round =>
            clear HFR HX1 HB1 hVs
            rename_i wq _
            obtain ⟨m, rfl, hm, hfr, hX, hB, hs⟩ := hrel
            have HX1 := Lib.hid hX
            have HB1 := Lib.hid hB
            by_cases hlm : m < l.length
            · obtain ⟨b, o, e, _, hce⟩ := HC.out (by omega)
              subst e
              obtain ⟨g0, g1⟩ := rsV_get hlm
              have e0 := below_cell hB (hce _ _ g0)
              have e1 := below_cell hB (hce _ _ g1)
              rw [← Nat.add_assoc] at e1
              obtain ⟨bN, bD⟩ := HBD.out l[m] (List.getElem_mem _)
              have hu : (upL (l.take m)).length ≤ 1000000 := by simp [upL]; omega
              have hd : (dnL (l.take m)).length ≤ 1000000 := by simp [dnL]; omega
              have hc := ftimes_any (Bf + 1) Bf _ _ _ l[m].1 l[m].2 _ hfr.out hs bN bD hu hd
              rw [← negL_take hlm, ← upL_take hlm, ← dnL_take hlm] at hc
              have HCT := Lib.hid hc
              clear hc hce g0 g1 hfr bN bD hu hd hX hB
              generalize l[m] = r at *
              obtain ⟨N, D⟩ := r
              simp only at e0 e1 HCT
              go_wp2_with fail
              go_fit HCT.out
              rintro e w2 ⟨rfl, hfr, hb2⟩
              have HFR2 := Lib.hid hfr
              have HX2 := Lib.hid (HX1.out.below hXl hb2)
              have HB2 := Lib.hid (HB1.out.trans (hb2.mono (by omega)))
              have hs2 : Bf + 1 ≤ w2.heap.size := by have := hb2.size; omega
              clear HCT hfr hb2
              go_wp2
              go_roundw
              case rel => exact ⟨m + 1, by go_num, hlm, HFR2, HX2.out, HB2.out, hs2⟩
              case measure => simp [intOf]; omega
            · have hT : l.take m = l := List.take_of_length_le (by omega)
              rw [hT] at hfr
              have hc := fvalue_any (Bf + 1) Bf _ _ _ _ hfr.out hs (onesU HRS.out HNZ.out) (onesD HRS.out)
              rw [val_ratio HRS.out HNZ.out] at hc
              have HCT := Lib.hid hc
              clear hc hfr hT hX hB
              go_wp2_with fail
              go_fit HCT.out
              rintro e w2 ⟨rfl, hb2⟩
              have hX2 := HX1.out.below (show w.heap.size < Bf + 1 by omega) hb2
              have HB2 := Lib.hid (HB1.out.trans (hb2.mono (by omega)))
              have r0 := hX2.cell 0 (.int .i64 0) rfl
              have r1 := hX2.cell 1 (.int .i64 0) rfl
              have f0 := hX2.frozen 0
              have f1 := hX2.frozen 1
              obtain ⟨r, hr⟩ : ∃ r, fit (prodQ l) = r := ⟨_, rfl⟩
              rw [hr]
              have k5 := hX2.set2 (.int .i64 r.n) (.int .i64 r.d)
              have s0 := k5.cell 0 (.int .i64 r.n) rfl
              have s1 := k5.cell 1 (.int .i64 r.d) rfl
              have HRR := Lib.hid hr
              clear HCT hb2 hX2 k5 hr
              go_wp2
              exact bodyPost_ret (v := .tuple #[.agg #[.int .i64 r.n, .int .i64 r.d], .int .i64 r.e]) (by simp [results, Tryd.results61, go_sem, s0, s1]) rfl
                ⟨by rw [HF.out, HRR.out] <;> rfl, (HB2.out.setCell (p := ⟨w.heap.size, 0, none⟩) (by simp) _).setCell (p := ⟨w.heap.size, 1, none⟩) (by simp) _⟩
end Go.Proofs.YtmibpncmebhbjaaDoor
