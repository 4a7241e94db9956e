/- The walks of Carry, of metro and of the reference, and of CopyInts. -/
import Derived.Test.YtmibpncmebhbjaaDoorCar1
import Derived.Test.YtmibpncmebhbjaaDoorTot2
import Derived.Test.YtmibpncmebhbjaaDoorTot3
namespace Go.Proofs.YtmibpncmebhbjaaDoor
open Go Go.RowKit Go.Shelf
attribute [local go_sem] Oper.semAt_some

set_option maxRecDepth 100000 in
set_option maxHeartbeats 400000 in
theorem copyInts_any (A : Option Addr) (c : Nat) (cs : List Int) (w : World) (hcs : Sl w 1 (.slice A cs.length c) (cs.map (Value.int .i64))) (hlen : cs.length ≤ 17592186044415) :
    Calls Tryd.prog 73 #[.slice A cs.length c] w fun e w' => ∃ A' c', e = .returned (.slice A' cs.length c') ∧ Below w.heap.size w w' ∧ Sl w' 1 (.slice A' cs.length c') (cs.map (Value.int .i64)) := by
  have HS := Lib.hid hcs
  clear hcs
  go_enter Tryd.func73, Tryd.ntmps73
  go_wp2_with (at_builtin; refine appInt _ _ rfl rfl rfl rfl (World.ownsRow_nil w w.heap.size _ _) HS.out (by intro u hu; obtain ⟨x, _, rfl⟩ := List.mem_map.1 hu; rfl) (N := cs.length) (by simp) (by omega) (Nat.le_refl _) ?_; intro A1 c1 w1 hap)
  go_ret
  have hg : w.grownBy w1 none := hap.grown
  exact ⟨A1, c1, rfl, below_grown hg (by simp), by simpa using Sl.of_own hap.own⟩

set_option maxRecDepth 100000 in
set_option maxHeartbeats 2000000 in
theorem rcarry_any (nm : ByteArray) (hnm : (nm.size : Int) ≤ 9223372036854775807) (A : Option Addr) (c : Nat) (us : List Un) (A2 : Option Addr) (c2 : Nat) (cs : List Int) (w : World) (hsl : Sl w 2 (.slice A us.length c) (unitsV us)) (hcs : Sl w 1 (.slice A2 cs.length c2) (cs.map (Value.int .i64))) (hbd : ∀ x ∈ cs, Bd x) :
    Calls Tryd.prog 76 #[.agg #[.string nm, .slice A us.length c], .slice A2 cs.length c2] w fun e w' => ∃ va vb, e = .returned (.tuple #[va, vb, .int .i64 (carryV nm us cs).2.2]) ∧ Sl w' 1 va ((carryV nm us cs).1.map (Value.int .i64)) ∧ Sl w' 1 vb ((carryV nm us cs).2.1.map (Value.int .i64)) ∧ Below w.heap.size w w' := by
  obtain ⟨_, _, e, hlc2, hcm2, hcl2⟩ := hcs.open1
  simp only [List.length_map] at e hlc2
  cases e
  obtain ⟨_, _, _, e, _, hlc1, hcm1, hcl1⟩ := hsl.open2 (by decide)
  cases e
  have HCL := Lib.hid hcl2
  have HUC := Lib.hid hcl1
  have Y0 := Cel.new w 33 #[.string nm, .slice A us.length c]
  have hw0 : Below w.heap.size w (w.alloc (.cells #[.string nm, .slice A us.length c] 33)) := below_alloc' _ _
  obtain ⟨W, hW⟩ : ∃ W, w.alloc (.cells #[.string nm, .slice A us.length c] 33) = W := ⟨_, rfl⟩
  rw [hW] at Y0 hw0
  have HW0 := Lib.hid hw0
  have HY0 := Lib.hid Y0
  have a0 := Y0.cell 0 (.string nm) rfl
  have a1 := Y0.cell 1 (.slice A us.length c) rfl
  have HS := Lib.hid (hsl.below hw0)
  have HT := Lib.hid (rtotal_any nm hnm A c us A2 c2 cs W (hsl.below hw0) (hcs.below hw0) hbd)
  have HV := Lib.hid (show carryV nm us cs = if (totalF nm us cs).2 = 0 then (splitF us (totalF nm us cs).1, carryL us cs 0, 0) else ([], [], (totalF nm us cs).2) from rfl)
  have HOK := Lib.hid (fun h => total_ok (nm := nm) (us := us) (cs := cs) h)
  clear hsl Y0 hw0 hcs hcl2 hcl1 hbd
  generalize totalF nm us cs = q at *
  obtain ⟨s, e⟩ := q
  simp only at HT HV HOK
  by_cases he : e = 0
  · have de : (e != 0) = false := by simp [he]
    obtain ⟨hc, hl, hb, _, s0, s1⟩ := HOK.out he
    obtain ⟨hf, hl1, hl2⟩ := checkF_zero hc
    have HF := Lib.hid hf
    have HB := Lib.hid hb
    have HC0 := Lib.hid hc
    have HVV := Lib.hid (show carryV nm us cs = (splitF us s, carryL us cs 0, 0) by rw [HV.out, if_pos he])
    clear he hf hb hc
    have HRS := Lib.hid (fun W h => rsplit_any nm hnm A c us s W h)
    have HSE := Lib.hid (splitE_good HC0.out s0 s1)
    have HSL := Lib.hid (splitL_yes HSE.out)
    go_enter Tryd.func76, Tryd.ntmps76
    go_wp2_with (first
      | (go_at_call 74; refine HT.out.mono ?_; rintro e' w1 ⟨rfl, hb1⟩; have y0 := HY0.out.below HY0.out.lt hb1; have a0' := y0.cell 0 (.string nm) rfl; have a1' := y0.cell 1 (.slice A us.length c) rfl)
      | (go_at_call 54; refine (HRS.out _ (HS.out.below hb1)).mono ?_; rintro e' V ⟨va, rfl, hva, hb2⟩; have HVA := Lib.hid (HSL.out ▸ hva); have HY1 := Lib.hid (y0.below y0.lt hb2); have HBV := Lib.hid (below_then HW0.out (below_then hb1 hb2)); clear hva))
    clear a0 a1 a0' a1' y0 hb1 hb2 hW
    go_loopw [11, 12, 13] (fun tv tc ti wr => ∃ (k : Nat) (cr : Int) (pre : List Int), ti = .int .i64 k ∧ k + 1 ≤ us.length ∧ tc = .int .i64 cr ∧ 0 ≤ cr ∧ cr ≤ (k : Int) * 1099511627776 ∧ pre.length = k ∧ carryL us cs 0 = pre ++ carryL (us.drop k) (cs.drop k) cr ∧ wr.ownsRow V.heap.size 3 1 tv k (pre.map (Value.int .i64)) ∧ Below V.heap.size V wr) (fun tv tc ti _ => us.length - (intOf ti).toNat)
    case atStart => exact ⟨0, 0, [], rfl, by omega, rfl, by decide, by decide, rfl, rfl, World.ownsRow_nil _ _ _ _, Below.refl _ _⟩
    case round =>
      obtain ⟨k, cr, pre, rfl, hk, rfl, c0, c1, hpl, hcy, hown, hB⟩ := hrel
      have HCY := Lib.hid hcy
      have HPL := Lib.hid hpl
      have HBW := Lib.hid (below_then HBV.out hB)
      have y1 := HY1.out.below HY1.out.lt hB
      have b0 := y1.cell 0 (.string nm) rfl
      have b1 := y1.cell 1 (.slice A us.length c) rfl
      have hsz := hB.size
      clear hcy hpl y1
      by_cases hlt : k + 1 < us.length
      · have hlt1 : (k : Int) + 1 < (us.length : Int) := by omega
        have hlt2 : (k : Int) < (us.length : Int) - 1 := by omega
        obtain ⟨b, o, ea, hbb, hce⟩ := HUC.out (by omega)
        subst ea
        obtain ⟨_, g1⟩ := unitsV_get hlt
        have e1 := below_cell HBW.out (hce _ _ g1)
        rw [← Nat.add_assoc] at e1
        clear hce g1
        have hfk := HF.out us[k + 1] (List.getElem_mem _)
        obtain ⟨f1, f2⟩ := hfk
        obtain ⟨x1, x2⟩ := cntAt_bd HB.out k
        have HST := Lib.hid (carryL_step hlt cs cr)
        have HCE := Lib.hid (fun h => cntAt_get (cs := cs) (i := k) h)
        have HCN := Lib.hid (fun h => cntAt_none (cs := cs) (i := k) h)
        generalize us[k + 1].factor = f at *
        generalize hcx : cntAt cs k = x at *
        clear hcx
        have hf0 : ¬ f = 0 := by omega
        have d0 := Int.ediv_nonneg (show 0 ≤ cr + x by omega) (show 0 ≤ f by omega)
        have d1 := Int.ediv_le_self f (show 0 ≤ cr + x by omega)
        have kb : (k : Int) ≤ 12 := by omega
        have hnew : (cr + x) / f ≤ ((k + 1 : Nat) : Int) * 1099511627776 := by omega
        by_cases hkc : k < cs.length
        · have hxe := HCE.out hkc
          obtain ⟨ad, ea, q0⟩ := HCL.out k (.int .i64 cs[k]) (by rw [List.getElem?_map, List.getElem?_eq_getElem hkc]; rfl)
          subst ea
          rw [← hxe] at q0
          have e2 := below_cell HBW.out q0
          clear q0 hxe
          go_wp2_with (at_builtin; refine appInt _ _ rfl rfl rfl rfl (hown.alloc _) (Sl.new (s := 1) wr 3 1 1 _ rfl (by omega) (by omega)) (by simp [Value.oneCell']) rfl (by simp; omega) (by simp; omega) ?_; intro A1 c1' w1' hap)
          have hb1 := below_of_own hap.grown (hown.alloc _) (hB.alloc hsz (.cells #[.int .i64 ((cr + x) / f)] 3)) (Nat.le_refl _)
          have hap1 := hap.own
          clear hap
          go_wp2
          go_roundw
          case rel => exact ⟨k + 1, (cr + x) / f, pre ++ [(cr + x) / f], by simp, hlt, rfl, d0, hnew, by simp [HPL.out], by rw [HCY.out, HST.out]; simp, by simpa using hap1, hb1⟩
          case measure => simp [intOf]; omega
        · have hx0 := HCN.out hkc
          have hkc' : ¬ (k : Int) < (cs.length : Int) := by omega
          subst hx0
          simp only [Int.add_zero] at d0 d1 hnew HST
          go_wp2_with (at_builtin; refine appInt _ _ rfl rfl rfl rfl (hown.alloc _) (Sl.new (s := 1) wr 3 1 1 _ rfl (by omega) (by omega)) (by simp [Value.oneCell']) rfl (by simp; omega) (by simp; omega) ?_; intro A1 c1' w1' hap)
          have hb1 := below_of_own hap.grown (hown.alloc _) (hB.alloc hsz (.cells #[.int .i64 (cr / f)] 3)) (Nat.le_refl _)
          have hap1 := hap.own
          clear hap
          go_wp2
          go_roundw
          case rel => exact ⟨k + 1, cr / f, pre ++ [cr / f], by simp, hlt, rfl, d0, hnew, by simp [HPL.out], by rw [HCY.out, HST.out]; simp, by simpa using hap1, hb1⟩
          case measure => simp [intOf]; omega
      · have hlt1 : ¬ (k : Int) + 1 < (us.length : Int) := by omega
        have HE := Lib.hid (show carryL us cs 0 = pre by rw [HCY.out, carryL_end (by omega)]; simp)
        have HSO := Lib.hid (Sl.of_own hown)
        go_wp2
        exact bodyPost_ret (v := .tuple #[va, u11, .int .i64 0]) (by simp [results, Tryd.results76, go_sem]) rfl
          ⟨va, u11, by rw [HVV.out] <;> rfl, by rw [HVV.out]; exact HVA.out.below hB, by rw [HVV.out, HE.out]; exact HSO.out, HBW.out⟩
  · have de : (e != 0) = true := by simp [he]
    have HVV := Lib.hid (show carryV nm us cs = ([], [], e) by rw [HV.out, if_neg he])
    clear he
    go_enter Tryd.func76, Tryd.ntmps76
    go_wp2_with (go_at_call 74; refine HT.out.mono ?_; rintro e' w1 ⟨rfl, hb1⟩)
    exact bodyPost_ret (v := .tuple #[.slice none 0 0, .slice none 0 0, .int .i64 e]) (by simp [results, Tryd.results76, go_sem]) rfl
      ⟨_, _, by rw [HVV.out] <;> rfl, by rw [HVV.out]; exact Sl.nilv _ _, by rw [HVV.out]; exact Sl.nilv _ _, below_then HW0.out hb1⟩

set_option maxRecDepth 100000 in
set_option maxHeartbeats 2000000 in
theorem carry_any (nm : ByteArray) (hnm : (nm.size : Int) ≤ 9223372036854775807) (A : Option Addr) (c : Nat) (us : List Un) (A2 : Option Addr) (c2 : Nat) (cs : List Int) (w : World) (hsl : Sl w 2 (.slice A us.length c) (unitsV us)) (hcs : Sl w 1 (.slice A2 cs.length c2) (cs.map (Value.int .i64))) (hbd : ∀ x ∈ cs, Bd x) :
    Calls Tryd.prog 75 #[.agg #[.string nm, .slice A us.length c], .slice A2 cs.length c2] w fun e w' => ∃ va vb, e = .returned (.tuple #[va, vb, .int .i64 (carryV nm us cs).2.2]) ∧ Sl w' 1 va ((carryV nm us cs).1.map (Value.int .i64)) ∧ Sl w' 1 vb ((carryV nm us cs).2.1.map (Value.int .i64)) ∧ Below w.heap.size w w' := by
  obtain ⟨_, _, e, hlc2, hcm2, hcl2⟩ := hcs.open1
  simp only [List.length_map] at e hlc2
  cases e
  obtain ⟨_, _, _, e, _, hlc1, hcm1, hcl1⟩ := hsl.open2 (by decide)
  cases e
  have HCL := Lib.hid hcl2
  have HUC := Lib.hid hcl1
  have Y0 := Cel.new w 33 #[.string nm, .slice A us.length c]
  have hw0 : Below w.heap.size w (w.alloc (.cells #[.string nm, .slice A us.length c] 33)) := below_alloc' _ _
  obtain ⟨W, hW⟩ : ∃ W, w.alloc (.cells #[.string nm, .slice A us.length c] 33) = W := ⟨_, rfl⟩
  rw [hW] at Y0 hw0
  have HW0 := Lib.hid hw0
  have HY0 := Lib.hid Y0
  have a0 := Y0.cell 0 (.string nm) rfl
  have a1 := Y0.cell 1 (.slice A us.length c) rfl
  have HS := Lib.hid (hsl.below hw0)
  have HT := Lib.hid (total_any nm hnm A c us A2 c2 cs W (hsl.below hw0) (hcs.below hw0) hbd)
  have HV := Lib.hid (show carryV nm us cs = if (totalF nm us cs).2 = 0 then (splitF us (totalF nm us cs).1, carryL us cs 0, 0) else ([], [], (totalF nm us cs).2) from rfl)
  have HOK := Lib.hid (fun h => total_ok (nm := nm) (us := us) (cs := cs) h)
  clear hsl Y0 hw0 hcs hcl2 hcl1 hbd
  generalize totalF nm us cs = q at *
  obtain ⟨s, e⟩ := q
  simp only at HT HV HOK
  by_cases he : e = 0
  · have de : (e != 0) = false := by simp [he]
    obtain ⟨hc, hl, hb, _, s0, s1⟩ := HOK.out he
    obtain ⟨hf, hl1, hl2⟩ := checkF_zero hc
    have HF := Lib.hid hf
    have HB := Lib.hid hb
    have HC0 := Lib.hid hc
    have HVV := Lib.hid (show carryV nm us cs = (splitF us s, carryL us cs 0, 0) by rw [HV.out, if_pos he])
    clear he hf hb hc
    go_enter Tryd.func75, Tryd.ntmps75
    go_wp2_with (go_at_call 64; refine HT.out.mono ?_; rintro e' V ⟨rfl, hb1⟩; have y0 := HY0.out.below HY0.out.lt hb1; have a0' := y0.cell 0 (.string nm) rfl; have a1' := y0.cell 1 (.slice A us.length c) rfl; have HY1 := Lib.hid y0; have HBV := Lib.hid (below_then HW0.out hb1); have HSV := Lib.hid (HS.out.below hb1))
    clear a0 a1 a0' a1' y0 hb1 hW
    go_loopw [5, 8, 23] (fun tv tc ti wr => ∃ (k : Nat) (cr : Int) (pre : List Int), ti = .int .i64 k ∧ k + 1 ≤ us.length ∧ tc = .int .i64 cr ∧ 0 ≤ cr ∧ cr ≤ (k : Int) * 1099511627776 ∧ pre.length = k ∧ carryL us cs 0 = pre ++ carryL (us.drop k) (cs.drop k) cr ∧ wr.ownsRow V.heap.size 3 1 tv k (pre.map (Value.int .i64)) ∧ Below V.heap.size V wr) (fun tv tc ti _ => us.length - (intOf ti).toNat)
    case atStart => exact ⟨0, 0, [], rfl, by omega, rfl, by decide, by decide, rfl, rfl, World.ownsRow_nil _ _ _ _, Below.refl _ _⟩
    case round =>
      obtain ⟨k, cr, pre, rfl, hk, rfl, c0, c1, hpl, hcy, hown, hB⟩ := hrel
      have HCY := Lib.hid hcy
      have HPL := Lib.hid hpl
      have HBW := Lib.hid (below_then HBV.out hB)
      have y1 := HY1.out.below HY1.out.lt hB
      have b0 := y1.cell 0 (.string nm) rfl
      have b1 := y1.cell 1 (.slice A us.length c) rfl
      have hsz := hB.size
      clear hcy hpl y1
      by_cases hlt : k + 1 < us.length
      · have hlt1 : (k : Int) + 1 < (us.length : Int) := by omega
        have hlt2 : (k : Int) < (us.length : Int) - 1 := by omega
        obtain ⟨b, o, ea, hbb, hce⟩ := HUC.out (by omega)
        subst ea
        obtain ⟨_, g1⟩ := unitsV_get hlt
        have e1 := below_cell HBW.out (hce _ _ g1)
        rw [← Nat.add_assoc] at e1
        clear hce g1
        have hfk := HF.out us[k + 1] (List.getElem_mem _)
        obtain ⟨f1, f2⟩ := hfk
        obtain ⟨x1, x2⟩ := cntAt_bd HB.out k
        have HST := Lib.hid (carryL_step hlt cs cr)
        have HCE := Lib.hid (fun h => cntAt_get (cs := cs) (i := k) h)
        have HCN := Lib.hid (fun h => cntAt_none (cs := cs) (i := k) h)
        generalize us[k + 1].factor = f at *
        generalize hcx : cntAt cs k = x at *
        clear hcx
        have hf0 : ¬ f = 0 := by omega
        have d0 := Int.ediv_nonneg (show 0 ≤ cr + x by omega) (show 0 ≤ f by omega)
        have d1 := Int.ediv_le_self f (show 0 ≤ cr + x by omega)
        have kb : (k : Int) ≤ 12 := by omega
        have hnew : (cr + x) / f ≤ ((k + 1 : Nat) : Int) * 1099511627776 := by omega
        by_cases hkc : k < cs.length
        · have hxe := HCE.out hkc
          obtain ⟨ad, ea, q0⟩ := HCL.out k (.int .i64 cs[k]) (by rw [List.getElem?_map, List.getElem?_eq_getElem hkc]; rfl)
          subst ea
          rw [← hxe] at q0
          have e2 := below_cell HBW.out q0
          clear q0 hxe
          go_wp2_with (at_builtin; refine appInt _ _ rfl rfl rfl rfl (hown.alloc _) (Sl.new (s := 1) wr 3 1 1 _ rfl (by omega) (by omega)) (by simp [Value.oneCell']) rfl (by simp; omega) (by simp; omega) ?_; intro A1 c1' w1' hap)
          have hb1 := below_of_own hap.grown (hown.alloc _) (hB.alloc hsz (.cells #[.int .i64 ((cr + x) / f)] 3)) (Nat.le_refl _)
          have hap1 := hap.own
          clear hap
          go_wp2
          go_roundw
          case rel => exact ⟨k + 1, (cr + x) / f, pre ++ [(cr + x) / f], by simp, hlt, rfl, d0, hnew, by simp [HPL.out], by rw [HCY.out, HST.out]; simp, by simpa using hap1, hb1⟩
          case measure => simp [intOf]; omega
        · have hx0 := HCN.out hkc
          have hkc' : ¬ (k : Int) < (cs.length : Int) := by omega
          subst hx0
          simp only [Int.add_zero] at d0 d1 hnew HST
          go_wp2_with (at_builtin; refine appInt _ _ rfl rfl rfl rfl (hown.alloc _) (Sl.new (s := 1) wr 3 1 1 _ rfl (by omega) (by omega)) (by simp [Value.oneCell']) rfl (by simp; omega) (by simp; omega) ?_; intro A1 c1' w1' hap)
          have hb1 := below_of_own hap.grown (hown.alloc _) (hB.alloc hsz (.cells #[.int .i64 (cr / f)] 3)) (Nat.le_refl _)
          have hap1 := hap.own
          clear hap
          go_wp2
          go_roundw
          case rel => exact ⟨k + 1, cr / f, pre ++ [cr / f], by simp, hlt, rfl, d0, hnew, by simp [HPL.out], by rw [HCY.out, HST.out]; simp, by simpa using hap1, hb1⟩
          case measure => simp [intOf]; omega
      · have hlt1 : ¬ (k : Int) < (us.length : Int) - 1 := by omega
        have HE := Lib.hid (show carryL us cs 0 = pre by rw [HCY.out, carryL_end (by omega)]; simp)
        have HSO := Lib.hid (Sl.of_own hown)
        have HSP := Lib.hid (split_any nm A c us s wr (HSV.out.below hB) HF.out hl1 hl2 s0 (by omega))
        clear hown
        go_wp2_with (go_at_call 114; refine HSP.out.mono ?_; rintro e' w9 ⟨va, rfl, hva, hb9⟩)
        exact bodyPost_ret (v := .tuple #[va, u5, .int .i64 0]) (by simp [results, Tryd.results75, go_sem]) rfl
          ⟨va, u5, by rw [HVV.out] <;> rfl, by rw [HVV.out]; exact hva, by rw [HVV.out, HE.out]; exact HSO.out.below hb9, below_then HBW.out hb9⟩
  · have de : (e != 0) = true := by simp [he]
    have HVV := Lib.hid (show carryV nm us cs = ([], [], e) by rw [HV.out, if_neg he])
    clear he
    go_enter Tryd.func75, Tryd.ntmps75
    go_wp2_with (go_at_call 64; refine HT.out.mono ?_; rintro e' w1 ⟨rfl, hb1⟩)
    exact bodyPost_ret (v := .tuple #[.slice none 0 0, .slice none 0 0, .int .i64 e]) (by simp [results, Tryd.results75, go_sem]) rfl
      ⟨_, _, by rw [HVV.out] <;> rfl, by rw [HVV.out]; exact Sl.nilv _ _, by rw [HVV.out]; exact Sl.nilv _ _, below_then HW0.out hb1⟩
end Go.Proofs.YtmibpncmebhbjaaDoor
