/- Products of lists of ratios: the program's and the reference's. -/
import Derived.Test.YtmibpncmebhbjaaDoorFrac2
import Derived.Test.YtmibpncmebhbjaaDoorFrac3
namespace Go.Proofs.YtmibpncmebhbjaaDoor
open Go Go.RowKit Go.Shelf
attribute [local go_sem] Oper.semAt_some rrV

def isRsB (l : List (Int × Int)) : Bool := l.all fun r => isR r.1 r.2
theorem isRsB_iff {l : List (Int × Int)} : isRsB l = true ↔ isRs l := by
  unfold isRsB isRs
  rw [List.all_eq_true]
theorem isRsB_bad {l : List (Int × Int)} {k : Nat} (hk : k < l.length) (h : isR l[k].1 l[k].2 = false) : isRsB l = false := by
  cases e : isRsB l with
  | false => rfl
  | true => exact absurd (isRsB_iff.1 e l[k] (List.getElem_mem _)) (by simp [h])
def anyZ (l : List (Int × Int)) : Bool := l.any fun r => r.1 == 0
theorem anyZ_snoc (l : List (Int × Int)) (r : Int × Int) : anyZ (l ++ [r]) = (anyZ l || (r.1 == 0)) := by simp [anyZ]
theorem anyZ_no {l : List (Int × Int)} (h : anyZ l = false) : ∀ r ∈ l, r.1 ≠ 0 := by
  intro r hr e
  have : anyZ l = true := List.any_eq_true.2 ⟨r, hr, by simp [e]⟩
  rw [h] at this; cases this
theorem anyZ_yes {l : List (Int × Int)} (h : anyZ l = true) : prodQ l = 0 := by
  obtain ⟨r, hr, hr0⟩ := List.any_eq_true.1 h
  obtain ⟨k, hk, rfl⟩ := List.mem_iff_getElem.1 hr
  exact prodQ_zero hk (by simpa using hr0)
def BdL (l : List (Int × Int)) : Prop := ∀ r ∈ l, Bd r.1 ∧ Bd r.2
/-- What Product returns. -/
def prodE (l : List (Int × Int)) : RR := if 64 < l.length then ⟨0, 0, 3⟩ else if isRsB l then fit (prodQ l) else ⟨0, 0, 2⟩
theorem prodE_long {l : List (Int × Int)} (h : 64 < l.length) : prodE l = ⟨0, 0, 3⟩ := if_pos h
theorem prodE_bad {l : List (Int × Int)} (h : ¬ 64 < l.length) (hb : isRsB l = false) : prodE l = ⟨0, 0, 2⟩ := by unfold prodE; rw [if_neg h, if_neg (by simp [hb])]
theorem prodE_good {l : List (Int × Int)} (h : ¬ 64 < l.length) (hb : isRsB l = true) : prodE l = fit (prodQ l) := by unfold prodE; rw [if_neg h, if_pos hb]
theorem take_snocP {l : List (Int × Int)} {k : Nat} (hlt : k < l.length) : l.take (k + 1) = l.take k ++ [l[k]] := List.take_succ_eq_append_getElem hlt
theorem negL_take {l : List (Int × Int)} {k : Nat} (hlt : k < l.length) : negL (l.take (k + 1)) = (negL (l.take k) != decide (l[k].1 < 0)) := by rw [take_snocP hlt, negL_snoc]
theorem upL_take {l : List (Int × Int)} {k : Nat} (hlt : k < l.length) : upL (l.take (k + 1)) = upL (l.take k) ++ [l[k].1.natAbs] := by rw [take_snocP hlt]; unfold upL; rw [List.map_append]; rfl
theorem dnL_take {l : List (Int × Int)} {k : Nat} (hlt : k < l.length) : dnL (l.take (k + 1)) = dnL (l.take k) ++ [l[k].2.natAbs] := by rw [take_snocP hlt]; unfold dnL; rw [List.map_append]; rfl

set_option maxRecDepth 100000 in
set_option maxHeartbeats 2000000 in
theorem mProduct_any (l : List (Int × Int)) (v : Value) (w : World) (hz : Zw w) (hv : Sl w 2 v (rsV l)) (hbd : BdL l) :
    Calls Tryd.prog 60 #[v] w fun e w' => e = .returned (rrV (prodE l)) ∧ Below w.heap.size w w' := by
  obtain ⟨A, n, c, rfl, hlc, hcm, hcM, hcl⟩ := hv.open2 (by decide)
  rw [rsV_length] at hlc
  obtain rfl : n = l.length := by omega
  clear hlc
  have HV := Lib.hid hv
  have HC := Lib.hid hcl
  have HBD := Lib.hid hbd
  have HZ := Lib.hid hz
  have hX := Cel.new w 23 #[.int .i64 0, .int .i64 0]
  have hw0 := below_alloc' w (.cells #[.int .i64 0, .int .i64 0] 23)
  clear hv hcl hbd hz
  by_cases hlong : 64 < l.length
  · have HF := Lib.hid (prodE_long hlong)
    have d1 : decide ((64 : Int) < (l.length : Int)) = true := decide_eq_true (by omega)
    have r0 := hX.cell 0 (.int .i64 0) rfl
    have r1 := hX.cell 1 (.int .i64 0) rfl
    have f0 := hX.frozen 0
    have f1 := hX.frozen 1
    go_enter Tryd.func60, Tryd.ntmps60
    go_wp2
    exact bodyPost_ret (v := .tuple #[.agg #[.int .i64 0, .int .i64 0], .int .i64 3]) (by simp [results, Tryd.results60, go_sem]) rfl ⟨by rw [HF.out] <;> rfl, by first | exact hw0 | exact (hw0.setCell (p := ⟨w.heap.size, 0, none⟩) (by simp) _).setCell (p := ⟨w.heap.size, 1, none⟩) (by simp) _⟩
  · have d1 : decide ((64 : Int) < (l.length : Int)) = false := decide_eq_false (by omega)
    have HG := Lib.hid (fun h => prodE_good hlong h)
    have HBad := Lib.hid (fun h => prodE_bad hlong h)
    have hl64 : l.length ≤ 64 := by omega
    clear hlong
    go_enter Tryd.func60, Tryd.ntmps60
    go_wp2
    obtain ⟨W, hW⟩ : ∃ W, w.alloc (.cells #[.int .i64 0, .int .i64 0] 23) = W := ⟨_, rfl⟩
    rw [hW] at hX hw0 ⊢
    clear hW
    go_loopw [12] (fun i wr => ∃ (k : Nat), i = .int .i64 k ∧ k ≤ l.length ∧ (∀ j (hj : j < l.length), j < k → isR l[j].1 l[j].2 = true) ∧ Cel wr w.heap.size 23 #[.int .i64 0, .int .i64 0] ∧ Below w.heap.size w wr) (fun i _ => l.length - (intOf i).toNat)
    case atStart => exact ⟨0, rfl, by omega, fun j _ h => by omega, hX, hw0⟩
    case round =>
      clear hX hw0
      obtain ⟨k, rfl, hk, hall, hX, hB⟩ := hrel
      have HA := Lib.hid hall
      have HX := Lib.hid hX
      have HB := Lib.hid hB
      by_cases hlt : k < l.length
      · obtain ⟨b, o, e, _, hce⟩ := HC.out (by omega)
        subst e
        obtain ⟨g0, g1⟩ := rsV_get hlt
        have e0 := below_cell hB (hce _ _ g0)
        have e1 := below_cell hB (hce _ _ g1)
        rw [← Nat.add_assoc] at e1
        obtain ⟨bN, bD⟩ := HBD.out l[k] (List.getElem_mem _)
        have HK1 : Hid (isR l[k].1 l[k].2 = true → ∀ j (hj : j < l.length), j < k + 1 → isR l[j].1 l[j].2 = true) := fun h0 j hj hjk => by
          by_cases e : j = k
          · subst e; exact h0
          · exact HA.out j hj (by omega)
        have HK2 : Hid (isR l[k].1 l[k].2 = false → isRsB l = false) := fun h => isRsB_bad hlt h
        clear hce g0 g1 hall hX
        generalize l[k] = r at *
        obtain ⟨N, D⟩ := r
        simp only at e0 e1 bN bD HK1 HK2
        have hsz := hB.size
        have hX1 := HX.out.alloc (.cells #[.int .i64 N, .int .i64 D] 23)
        have hB1 := hB.alloc hsz (.cells #[.int .i64 N, .int .i64 D] 23)
        have HX1 := Lib.hid hX1
        have HB1 := Lib.hid hB1
        clear hX1 hB1 hB
        go_wp2_with fail
        have hc := isRatio_any N D (wr.alloc (.cells #[.int .i64 N, .int .i64 D] 23)) bN.1 bN.2 bD.1 bD.2
        cases hR : isR N D with
        | true =>
          rw [hR] at hc
          go_fit hc
          rintro e w2 ⟨rfl, hb2⟩
          have HAA := Lib.hid (HK1.out hR)
          have HX2 := Lib.hid (HX1.out.below HX1.out.lt hb2)
          have HB2 := Lib.hid (HB1.out.trans (hb2.mono (by have := HB1.out.size; omega)))
          clear hc hb2 hR
          go_wp2
          go_roundw
          case rel => exact ⟨k + 1, by go_num, hlt, HAA.out, HX2.out, HB2.out⟩
          case measure => simp [intOf]; omega
        | false =>
          rw [hR] at hc
          go_fit hc
          rintro e w2 ⟨rfl, hb2⟩
          have HF := Lib.hid (HBad.out (HK2.out hR))
          have hX2 := HX1.out.below HX1.out.lt hb2
          have HB2 := Lib.hid (HB1.out.trans (hb2.mono (by have := HB1.out.size; omega)))
          have r0 := hX2.cell 0 (.int .i64 0) rfl
          have r1 := hX2.cell 1 (.int .i64 0) rfl
          have f0 := hX2.frozen 0
          have f1 := hX2.frozen 1
          have k5 := hX2.set2 (.int .i64 0) (.int .i64 0)
          have s0 := k5.cell 0 (.int .i64 0) rfl
          have s1 := k5.cell 1 (.int .i64 0) rfl
          clear hc hb2 hR hX2 k5
          go_wp2
          exact bodyPost_ret (v := .tuple #[.agg #[.int .i64 0, .int .i64 0], .int .i64 2]) (by simp [results, Tryd.results60, go_sem, s0, s1]) rfl
            ⟨by rw [HF.out] <;> rfl, (HB2.out.setCell (p := ⟨w.heap.size, 0, none⟩) (by simp) _).setCell (p := ⟨w.heap.size, 1, none⟩) (by simp) _⟩
      · have HRS := Lib.hid (show isRs l from fun r hr => by
          obtain ⟨j, hj, rfl⟩ := List.mem_iff_getElem.1 hr
          exact HA.out j hj (by omega))
        clear hall hX
        have hsz := hB.size
        have hc := multiplied_any l A c wr (HZ.out.below hB) (HV.out.below hB) HRS.out (by omega)
        clear hB
        go_wp2_with fail
        go_fit hc
        rintro e w2 ⟨rfl, hb2⟩
        have hX2 := HX.out.below HX.out.lt hb2
        have HB2 := Lib.hid (HB.out.trans (hb2.mono (by have := HB.out.size; omega)))
        have HF := Lib.hid (HG.out (isRsB_iff.2 HRS.out))
        have r0 := hX2.cell 0 (.int .i64 0) rfl
        have r1 := hX2.cell 1 (.int .i64 0) rfl
        have f0 := hX2.frozen 0
        have f1 := hX2.frozen 1
        obtain ⟨r, hr⟩ : ∃ r, fit (prodQ l) = r := ⟨_, rfl⟩
        rw [hr]
        have k5 := hX2.set2 (.int .i64 r.n) (.int .i64 r.d)
        have s0 := k5.cell 0 (.int .i64 r.n) rfl
        have s1 := k5.cell 1 (.int .i64 r.d) rfl
        have HRR := Lib.hid hr
        clear hc hb2 hX2 k5 hr
        go_wp2
        exact bodyPost_ret (v := .tuple #[.agg #[.int .i64 r.n, .int .i64 r.d], .int .i64 r.e]) (by simp [results, Tryd.results60, go_sem, s0, s1]) rfl
          ⟨by rw [HF.out, HRR.out] <;> rfl, (HB2.out.setCell (p := ⟨w.heap.size, 0, none⟩) (by simp) _).setCell (p := ⟨w.heap.size, 1, none⟩) (by simp) _⟩
end Go.Proofs.YtmibpncmebhbjaaDoor
