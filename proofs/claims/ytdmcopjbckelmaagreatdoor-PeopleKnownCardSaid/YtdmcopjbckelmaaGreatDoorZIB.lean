/- Walks of the reference: deed. Conditions: those stated. Walks of the reference: CheckDeeds. Conditions: those stated. -/
import Derived.Test.YtdmcopjbckelmaaGreatDoorZG
import Derived.Test.YtdmcopjbckelmaaGreatDoorZG1
import Derived.BigQuiet
namespace Go.Proofs.YtdmcopjbckelmaaGreatDoor
section
open Go Go.RowKit Go.Shelf
attribute [local go_sem] Oper.semAt_some

set_option maxRecDepth 100000 in
set_option maxHeartbeats 4000000 in
theorem rdeed_any (nm : ByteArray) (y : Int) (se sl : ByteArray) (wit : List ByteArray) (Aw : Option Addr) (nw cw : Nat) (w : World) (h : Sl w 1 (.slice Aw nw cw) (namesV wit)) (hs : ShortD ⟨nm, y, se, sl, wit⟩) :
    Calls Tryz.prog 93 #[.agg #[.string nm, .int .i64 y, .string se, .string sl, .slice Aw nw cw]] w fun e w' => e = .returned (.bool (deedB ⟨nm, y, se, sl, wit⟩)) ∧ Below w.heap.size w w' := by
  obtain ⟨⟨s1, s2, s3⟩, s4⟩ := hs
  simp only at s1 s2 s3 s4
  obtain ⟨_, _, _, e, hl, hcap, hcm, _⟩ := h.open2 (by decide)
  cases e
  rw [namesV_length] at hl
  obtain rfl : nw = wit.length := by omega
  clear hl
  have hb := below_alloc' w (.cells #[.string nm, .int .i64 y, .string se, .string sl, .slice Aw wit.length cw] 63)
  have y0 := Cel.new w 63 #[.string nm, .int .i64 y, .string se, .string sl, .slice Aw wit.length cw]
  have HS := Lib.hid (h.below hb)
  have HB := Lib.hid hb
  have HW := Lib.hid s4
  have J1 := Lib.hid s1
  have J2 := Lib.hid s2
  have J3 := Lib.hid s3
  clear h hb s1 s2 s3 s4
  go_enter Tryz.func93, Tryz.ntmps93
  go_upto_region 1 with fail
  obtain ⟨W, hW⟩ : ∃ W, w.alloc (.cells #[.string nm, .int .i64 y, .string se, .string sl, .slice Aw wit.length cw] 63) = W := ⟨_, rfl⟩
  rw [hW] at y0 HS HB ⊢
  clear hW
  have c0 := y0.cell 0 (.string nm) rfl
  have c1 := y0.cell 1 (.int .i64 y) rfl
  have c2 := y0.cell 2 (.string se) rfl
  have c3 := y0.cell 3 (.string sl) rfl
  have c4 := y0.cell 4 (.slice Aw wit.length cw) rfl
  have HI1 := Lib.hid (risName_any nm W J1.out)
  have HI2 := Lib.hid (risName_any se W J2.out)
  have HI3 := Lib.hid (risName_any sl W J3.out)
  clear y0
  go_cut [41] (fun t wx => t = .bool (!headB ⟨nm, y, se, sl, wit⟩) ∧ wx = W)
  case first =>
    cases q1 : nameB nm with
    | false =>
      rw [q1] at HI1
      have HH := Lib.hid (show headB ⟨nm, y, se, sl, wit⟩ = false by unfold headB; simp only; rw [q1]; rfl)
      clear q1
      go_wp2_with fail
      refine HI1.out.mono ?_
      rintro e wz ⟨rfl, rfl⟩
      go_wp2
      go_meet
      exact ⟨by rw [HH.out]; first | rfl | simp [], rfl⟩
    | true =>
      rw [q1] at HI1
      by_cases q2 : y < -1000
      · have b2 := q2
        have q2' : ¬ -1000 ≤ y := by omega
        have HH := Lib.hid (show headB ⟨nm, y, se, sl, wit⟩ = false by unfold headB; simp only; rw [q1, decide_eq_false q2']; rfl)
        clear q1 q2'
        go_wp2_with fail
        refine HI1.out.mono ?_
        rintro e wz ⟨rfl, rfl⟩
        go_wp2
        go_meet
        exact ⟨by rw [HH.out]; first | rfl | simp [], rfl⟩
      · have q2' : -1000 ≤ y := by omega
        by_cases q3 : 1000 < y
        · have q3' : ¬ y ≤ 1000 := by omega
          have HH := Lib.hid (show headB ⟨nm, y, se, sl, wit⟩ = false by unfold headB; simp only; rw [q1, decide_eq_true q2', decide_eq_false q3']; rfl)
          clear q1 q2' q3'
          go_wp2_with fail
          refine HI1.out.mono ?_
          rintro e wz ⟨rfl, rfl⟩
          go_wp2
          go_meet
          exact ⟨by rw [HH.out]; first | rfl | simp [q2, q3], rfl⟩
        · have q3' : y ≤ 1000 := by omega
          cases q4 : nameB se with
          | false =>
            rw [q4] at HI2
            have HH := Lib.hid (show headB ⟨nm, y, se, sl, wit⟩ = false by unfold headB; simp only; rw [q1, decide_eq_true q2', decide_eq_true q3', q4]; rfl)
            clear q1 q2' q3' q4
            go_wp2_with fail
            refine HI1.out.mono ?_
            rintro e wz ⟨rfl, rfl⟩
            go_wp2_with fail
            refine HI2.out.mono ?_
            rintro e wz ⟨rfl, rfl⟩
            go_wp2
            go_meet
            exact ⟨by rw [HH.out]; first | rfl | simp [q2, q3], rfl⟩
          | true =>
            rw [q4] at HI2
            by_cases q5 : sl = ⟨#[]⟩
            · have b5 : sl.toList.isEmpty = true := by rw [q5]; kernel_rfl
              by_cases q6 : wit.length ≤ 12
              · have b6 : ¬ (12 : Int) < (wit.length : Int) := by omega
                have HH := Lib.hid (show headB ⟨nm, y, se, sl, wit⟩ = true by unfold headB; simp only; rw [q1, decide_eq_true q2', decide_eq_true q3', q4, decide_eq_true q5, decide_eq_true q6]; rfl)
                clear q1 q2' q3' q4 q5 q6
                go_wp2_with fail
                refine HI1.out.mono ?_
                rintro e wz ⟨rfl, rfl⟩
                go_wp2_with fail
                refine HI2.out.mono ?_
                rintro e wz ⟨rfl, rfl⟩
                go_wp2
                go_meet
                exact ⟨by rw [HH.out]; first | rfl | simp [q2, q3, b6], rfl⟩
              · have b6 : (12 : Int) < (wit.length : Int) := by omega
                have HH := Lib.hid (show headB ⟨nm, y, se, sl, wit⟩ = false by unfold headB; simp only; rw [q1, decide_eq_true q2', decide_eq_true q3', q4, decide_eq_true q5, decide_eq_false q6]; rfl)
                clear q1 q2' q3' q4 q5 q6
                go_wp2_with fail
                refine HI1.out.mono ?_
                rintro e wz ⟨rfl, rfl⟩
                go_wp2_with fail
                refine HI2.out.mono ?_
                rintro e wz ⟨rfl, rfl⟩
                go_wp2
                go_meet
                exact ⟨by rw [HH.out]; first | rfl | simp [q2, q3, b6], rfl⟩
            · have b5 : sl.toList.isEmpty = false := by
                rw [Bool.eq_false_iff]
                intro z
                exact q5 ((Lib.bytes_beq_iff _ _).1 (beq_iff_eq.2 ((List.isEmpty_iff.1 z).trans (show [] = (⟨#[]⟩ : ByteArray).toList from by kernel_rfl))))
              cases q7 : nameB sl with
              | false =>
                rw [q7] at HI3
                have HH := Lib.hid (show headB ⟨nm, y, se, sl, wit⟩ = false by unfold headB; simp only; rw [q1, decide_eq_true q2', decide_eq_true q3', q4, decide_eq_false q5, q7]; rfl)
                clear q1 q2' q3' q4 q5 q7
                go_wp2_with fail
                refine HI1.out.mono ?_
                rintro e wz ⟨rfl, rfl⟩
                go_wp2_with fail
                refine HI2.out.mono ?_
                rintro e wz ⟨rfl, rfl⟩
                go_wp2_with fail
                refine HI3.out.mono ?_
                rintro e wz ⟨rfl, rfl⟩
                go_wp2
                go_meet
                exact ⟨by rw [HH.out]; first | rfl | simp [q2, q3, b5], rfl⟩
              | true =>
                rw [q7] at HI3
                by_cases q6 : wit.length ≤ 12
                · have b6 : ¬ (12 : Int) < (wit.length : Int) := by omega
                  have HH := Lib.hid (show headB ⟨nm, y, se, sl, wit⟩ = true by unfold headB; simp only; rw [q1, decide_eq_true q2', decide_eq_true q3', q4, decide_eq_false q5, q7, decide_eq_true q6]; rfl)
                  clear q1 q2' q3' q4 q5 q7 q6
                  go_wp2_with fail
                  refine HI1.out.mono ?_
                  rintro e wz ⟨rfl, rfl⟩
                  go_wp2_with fail
                  refine HI2.out.mono ?_
                  rintro e wz ⟨rfl, rfl⟩
                  go_wp2_with fail
                  refine HI3.out.mono ?_
                  rintro e wz ⟨rfl, rfl⟩
                  go_wp2
                  go_meet
                  exact ⟨by rw [HH.out]; first | rfl | simp [q2, q3, b6], rfl⟩
                · have b6 : (12 : Int) < (wit.length : Int) := by omega
                  have HH := Lib.hid (show headB ⟨nm, y, se, sl, wit⟩ = false by unfold headB; simp only; rw [q1, decide_eq_true q2', decide_eq_true q3', q4, decide_eq_false q5, q7, decide_eq_false q6]; rfl)
                  clear q1 q2' q3' q4 q5 q7 q6
                  go_wp2_with fail
                  refine HI1.out.mono ?_
                  rintro e wz ⟨rfl, rfl⟩
                  go_wp2_with fail
                  refine HI2.out.mono ?_
                  rintro e wz ⟨rfl, rfl⟩
                  go_wp2_with fail
                  refine HI3.out.mono ?_
                  rintro e wz ⟨rfl, rfl⟩
                  go_wp2
                  go_meet
                  exact ⟨by rw [HH.out]; first | rfl | simp [q2, q3, b6], rfl⟩
  case rest =>
    obtain ⟨rfl, hwc⟩ := hcut
    replace hwc := hwc.symm
    subst hwc
    cases q : headB ⟨nm, y, se, sl, wit⟩ with
    | false =>
      have HR := Lib.hid (deedB_head q)
      clear q
      simp only [Bool.not_false]
      go_wp2
      go_ret
      exact ⟨by rw [HR.out]; rfl, HB.out⟩
    | true =>
      have HQ := Lib.hid q
      have HR : ∀ r, deedB ⟨nm, y, se, sl, wit⟩ = r → Hid (deedB ⟨nm, y, se, sl, wit⟩ = r) := fun r h => Lib.hid h
      have HR' := Lib.hid HR
      clear q HR
      simp only [Bool.not_true]
      go_wp2
      go_loopw [3] (fun ti wr => ∃ k : Nat, ti = .int .i64 k ∧ k ≤ wit.length ∧ wr = W ∧ Hid (∀ j, j < k → witOk ⟨nm, y, se, sl, wit⟩ j = true)) (fun ti _ => wit.length - (intOf ti).toNat)
      case atStart => exact ⟨0, rfl, by omega, rfl, fun j hj => absurd hj (Nat.not_lt_zero _)⟩
      case round =>
        obtain ⟨k, rfl, hk, hwr, HO⟩ := hrel
        replace hwr := hwr.symm
        subst hwr
        by_cases hlt : k < wit.length
        · have hki : (k : Int) < (wit.length : Int) := by omega
          obtain ⟨_, _, _, e4, _, _, _, hcl⟩ := HS.out.open2 (by decide)
          cases e4
          obtain ⟨b4, o4, e4, hbb, hce⟩ := hcl (by omega)
          subst e4
          have hget : wit[k]? = some wit[k] := List.getElem?_eq_getElem hlt
          have d1 := hce k (.string wit[k]) (by simp [namesV, hget])
          have HD := Lib.hid (getD_of hget)
          have HIs := Lib.hid (risName_any wit[k] W (HW.out _ (List.getElem_mem hlt)))
          obtain ⟨A', hsl, hsn⟩ := names_to HS.out (Nat.le_of_lt hlt)
          have hst := (str_to (some ⟨b4, o4, none⟩) wit.length cw k (by omega) W).trans (by rw [hsl])
          have HSn := Lib.hid hsn
          clear hce hget hcl hbb hsl hsn
          generalize wit[k] = s at *
          obtain ⟨i, hix⟩ : ∃ i, atF (wit.take k) s = i := ⟨_, rfl⟩
          have HCo := Lib.hid (rAt_in W HSn.out hix)
          have HAt := Lib.hid (show i < 0 ↔ ¬ s ∈ wit.take k by rw [← hix]; exact atF_neg)
          clear hix
          cases q1 : nameB s with
          | false =>
            rw [q1] at HIs
            have HF := Lib.hid (deedB_wit (d := ⟨nm, y, se, sl, wit⟩) hlt (by unfold witOk; rw [HD.out, q1]; rfl))
            clear q1
            go_wp2_with fail
            refine HIs.out.mono ?_
            rintro e wz ⟨rfl, rfl⟩
            go_wp2
            go_ret
            exact ⟨by rw [HF.out]; rfl, HB.out⟩
          | true =>
            rw [q1] at HIs
            by_cases q2 : s = se
            · have HF := Lib.hid (deedB_wit (d := ⟨nm, y, se, sl, wit⟩) hlt (by unfold witOk; rw [HD.out, q1]; simp [q2]))
              have b2 : (s.toList == se.toList) = true := by rw [q2]; simp
              clear q1 q2
              go_wp2_with fail
              refine HIs.out.mono ?_
              rintro e wz ⟨rfl, rfl⟩
              go_wp2
              go_ret
              exact ⟨by rw [HF.out]; rfl, HB.out⟩
            · have b2 : (s.toList == se.toList) = false := by rw [Bool.eq_false_iff]; intro z; exact q2 ((Lib.bytes_beq_iff _ _).1 z)
              cases q3 : memB (wit.take k) s with
              | true =>
                have HF := Lib.hid (deedB_wit (d := ⟨nm, y, se, sl, wit⟩) hlt (by unfold witOk; rw [HD.out, q1, q3]; simp))
                have b4' : 0 ≤ i := by
                  have hm := memB_iff.1 q3
                  have : ¬ i < 0 := fun z => (HAt.out.1 z) hm
                  omega
                have b3 : decide (0 ≤ i) = true := decide_eq_true b4'
                clear q1 q2 q3
                go_wp2_with fail
                refine HIs.out.mono ?_
                rintro e wz ⟨rfl, rfl⟩
                go_wp2_with fail
                refine HCo.out.mono ?_
                rintro e wz ⟨rfl, rfl⟩
                go_wp2
                go_ret
                exact ⟨by rw [HF.out]; rfl, HB.out⟩
              | false =>
                have HK := Lib.hid (show witOk ⟨nm, y, se, sl, wit⟩ k = true by unfold witOk; rw [HD.out, q1, q3]; simp [q2])
                have b4' : ¬ 0 ≤ i := by
                  have hm : ¬ s ∈ wit.take k := fun z => by rw [memB_iff.2 z] at q3; cases q3
                  have := HAt.out.2 hm
                  omega
                have b3 : decide (0 ≤ i) = false := decide_eq_false b4'
                clear q1 q2 q3
                go_wp2_with fail
                refine HIs.out.mono ?_
                rintro e wz ⟨rfl, rfl⟩
                go_wp2_with fail
                refine HCo.out.mono ?_
                rintro e wz ⟨rfl, rfl⟩
                go_wp2
                go_roundw
                case rel => exact ⟨k + 1, by go_num, by omega, trivial, fun j hj => by
                  rcases Nat.lt_succ_iff_lt_or_eq.1 hj with q | q
                  · exact HO.out j q
                  · rw [q]; exact HK.out⟩
                case measure => simp [intOf]; omega
        · have HF := Lib.hid (deedB_yes HQ.out (fun j hj => HO.out j (by simp only at hj; omega)))
          go_wp2
          go_ret
          exact ⟨by rw [HF.out]; rfl, HB.out⟩
end

section
open Go Go.RowKit Go.Shelf
attribute [local go_sem] Oper.semAt_some

theorem okD_same {ds : List De} {i k : Nat} {d e : De} (hi : ds[i]? = some d) (hk : ds[k]? = some e) (h : k < i) (hn : e.nm = d.nm) : okD ds i = false := by
  unfold okD
  rw [show ds.getD i noDe = d by rw [List.getD_eq_getElem?_getD, hi]; rfl]
  have hm : d.nm ∈ (ds.take i).map (·.nm) := by
    refine List.mem_map.2 ⟨e, ?_, hn⟩
    exact List.mem_of_getElem? (i := k) (by rw [List.getElem?_take, if_pos h, hk])
  rw [memB_iff.2 hm, Bool.not_true, Bool.and_false]
theorem okD_is {ds : List De} {i : Nat} {d : De} (hi : ds[i]? = some d) (h : ∀ (k : Nat) e, k < i → ds[k]? = some e → e.nm ≠ d.nm) : okD ds i = deedB d := by
  unfold okD
  rw [show ds.getD i noDe = d by rw [List.getD_eq_getElem?_getD, hi]; rfl]
  have hm : ¬ d.nm ∈ (ds.take i).map (·.nm) := fun q => by
    obtain ⟨e, he, hn⟩ := List.mem_map.1 q
    obtain ⟨k, hk⟩ := List.mem_iff_getElem?.1 he
    rw [List.getElem?_take] at hk
    split at hk
    · next z => exact h k e z hk hn
    · cases hk
  have : memB ((ds.take i).map (·.nm)) d.nm = false := by rw [Bool.eq_false_iff]; exact fun q => hm (memB_iff.1 q)
  rw [this, Bool.not_false, Bool.and_true]
set_option maxRecDepth 100000 in
set_option maxHeartbeats 4000000 in
theorem rcheckDeeds_any (v : Value) (ds : List De) (w : World) (h : DeedsV w v ds) (hs : ShortDs ds) :
    Calls Tryz.prog 46 #[v] w fun e w' => e = .returned (.int .i64 (checkDF ds)) ∧ Below w.heap.size w w' := by
  obtain ⟨A, c, rfl, h⟩ := h.shape
  obtain ⟨_, h1, h2⟩ := h.many
  by_cases hl : 64 < ds.length
  · have hli : (64 : Int) < (ds.length : Int) := by omega
    have hr := Lib.hid (show checkDF ds = 3 by unfold checkDF; rw [if_pos hl])
    clear h hs hl
    go_enter Tryz.func46, Tryz.ntmps46
    go_wp2
    go_ret
    exact ⟨by rw [hr.out]; rfl, Below.refl _ _⟩
  · have hli : ¬ (64 : Int) < (ds.length : Int) := by omega
    have HNo := Lib.hid (fun i hi ho => checkDF_no (ds := ds) (i := i) hl hi ho)
    have HYes := Lib.hid (fun ho => checkDF_yes (ds := ds) hl ho)
    have HD := Lib.hid (fun q => h.deed q)
    have HSh := Lib.hid hs
    have HB0 := Lib.hid (Below.refl w.heap.size w)
    clear h hs hl
    go_enter Tryz.func46, Tryz.ntmps46
    go_wp2
    go_loopw [3] (fun ti wr => ∃ i : Nat, ti = .int .i64 i ∧ i ≤ ds.length ∧ Hid (Below w.heap.size w wr) ∧ Hid (∀ j, j < i → okD ds j = true)) (fun ti _ => ds.length - (intOf ti).toNat)
    case atStart => exact ⟨0, rfl, by omega, HB0.out, fun j hj => absurd hj (Nat.not_lt_zero _)⟩
    case round =>
      clear HB0
      obtain ⟨i, rfl, hi, HB, HO⟩ := hrel
      obtain ⟨wo, hwo⟩ : ∃ wo, wo = wr := ⟨_, rfl⟩
      rw [← hwo] at HB ⊢
      clear hwo
      by_cases hlt : i < ds.length
      · have hii : (i : Int) < (ds.length : Int) := by omega
        have hi0 : (0 : Int) ≤ (i : Int) := by omega
        obtain ⟨b0, o0, rfl, _, hce⟩ := HD.out (by omega)
        have hget : ds[i]? = some ds[i] := List.getElem?_eq_getElem hlt
        obtain ⟨g0, g1, g2, g3, Aw, nw, cw, g4, hsw⟩ := hce i _ hget
        have HCe := Lib.hid (fun k e hk => (hce k e hk).1)
        have HG := Lib.hid (⟨g0, g1, g2, g3, g4⟩ : _ ∧ _ ∧ _ ∧ _ ∧ _)
        have HSw := Lib.hid hsw
        have HShi := Lib.hid (HSh.out _ (List.getElem_mem hlt))
        have HSame := Lib.hid (fun (k : Nat) (e : De) (hk : ds[k]? = some e) (hlk : k < i) (hn : e.nm = ds[i].nm) => HNo.out i hlt (okD_same hget hk hlk hn))
        have HIs := Lib.hid (fun (h : ∀ (k : Nat) e, k < i → ds[k]? = some e → e.nm ≠ ds[i].nm) => okD_is hget h)
        have HNi := Lib.hid (fun (q : okD ds i = false) => HNo.out i hlt q)
        clear hce hget g0 g1 g2 g3 g4 hsw
        generalize ds[i] = d at *
        obtain ⟨nm, yr, se, sl, wit⟩ := d
        simp only at HG HSw HShi HSame HIs
        go_wp2
        go_loopw [4] (fun ti wr => ∃ k : Nat, ti = .int .i64 k ∧ k ≤ i ∧ Hid (Below w.heap.size w wr) ∧ Hid (∀ (j : Nat) e, j < k → ds[j]? = some e → e.nm ≠ nm)) (fun ti _ => i - (intOf ti).toNat)
        case atStart => exact ⟨0, rfl, by omega, HB.out, fun j e hj => absurd hj (Nat.not_lt_zero _)⟩
        case round =>
          clear HB
          obtain ⟨k, rfl, hk, HB, HN⟩ := hrel
          by_cases hlk : k < i
          · have hki : (k : Int) < (i : Int) := by omega
            have hk0 : (0 : Int) ≤ (k : Int) := by omega
            have hkl : (k : Int) < (ds.length : Int) := by omega
            have hgk : ds[k]? = some (ds[k]'(by omega)) := List.getElem?_eq_getElem (by omega)
            have c1 := below_cell HB.out (HCe.out k _ hgk)
            have c2 := below_cell HB.out HG.out.1
            have HSk := Lib.hid (fun hn => HSame.out k _ hgk hlk hn)
            have HNk := Lib.hid (fun (hn : (ds[k]'(by omega)).nm ≠ nm) => show ∀ (j : Nat) e, j < k + 1 → ds[j]? = some e → e.nm ≠ nm from fun j e hj he => by
              rcases Nat.lt_succ_iff_lt_or_eq.1 hj with z | z
              · exact HN.out j e z he
              · rw [z, hgk] at he; cases he; exact hn)
            clear hgk
            generalize (ds[k]'(by omega)).nm = mk at *
            by_cases hq : mk = nm
            · have b1 : (mk.toList == nm.toList) = true := by rw [hq]; simp
              have HF := Lib.hid (HSk.out hq)
              clear hq HSk HNk
              go_upto_region 9 with fail
              go_quiet (fail)
              go_wp2
              go_ret
              exact ⟨by rw [HF.out]; rfl, below_drewN HB.out _⟩
            · have b1 : (mk.toList == nm.toList) = false := by rw [Bool.eq_false_iff]; intro z; exact hq ((Lib.bytes_beq_iff _ _).1 z)
              have HF := Lib.hid (HNk.out hq)
              clear hq HSk HNk
              go_upto_region 9 with fail
              go_quiet (fail)
              go_wp2
              exact ⟨⟨k + 1, by go_num, by omega, below_drewN HB.out _, HF.out⟩, by simp [intOf]; omega⟩
          · have HE := Lib.hid (HIs.out (fun j e hj he => HN.out j e (by omega) he))
            have g0 := below_cell HB.out HG.out.1
            have g1 := below_cell HB.out HG.out.2.1
            have g2 := below_cell HB.out HG.out.2.2.1
            have g3 := below_cell HB.out HG.out.2.2.2.1
            have g4 := below_cell HB.out HG.out.2.2.2.2
            have HDe := Lib.hid (rdeed_any nm yr se sl wit Aw nw cw wr (HSw.out.below HB.out) HShi.out)
            generalize deedB ⟨nm, yr, se, sl, wit⟩ = q at *
            go_wp2_with fail
            refine HDe.out.mono ?_
            rintro e w2 ⟨rfl, hb2⟩
            have HB2 := Lib.hid (HB.out.trans (hb2.mono HB.out.size))
            clear hb2 g0 g1 g2 g3 g4 HDe
            cases q with
            | false =>
              have HF := Lib.hid (HNi.out HE.out)
              go_wp2
              go_ret
              exact ⟨by rw [HF.out]; rfl, HB2.out⟩
            | true =>
              have HO2 := Lib.hid (show ∀ j, j < i + 1 → okD ds j = true from fun j hj => by
                rcases Nat.lt_succ_iff_lt_or_eq.1 hj with z | z
                · exact HO.out j z
                · rw [z]; exact HE.out)
              go_wp2
              exact ⟨⟨i + 1, by go_num, by omega, HB2.out, HO2.out⟩, by simp [intOf]; omega⟩
      · have HF := Lib.hid (HYes.out (fun j hj => HO.out j (by omega)))
        go_wp2
        go_ret
        exact ⟨by rw [HF.out]; rfl, HB.out⟩
end
end Go.Proofs.YtdmcopjbckelmaaGreatDoor
