/- Walks of the reference: Circles. Conditions: those stated. -/
import Derived.Test.YtdmcopjbckelmaaGreatDoorZU6
import Derived.Test.YtdmcopjbckelmaaGreatDoorZJ1
import Derived.BigQuiet
namespace Go.Proofs.YtdmcopjbckelmaaGreatDoor
open Go Go.RowKit Go.Shelf
attribute [local go_sem] Oper.semAt_some

theorem RowsW.more {w : World} {ob : Option Nat} {vs : List Value} {cs : List (List ByteArray)} (h : RowsW w ob vs cs) {g n c : Nat} {l : List ByteArray} (hS : Sl w 1 (.slice (some ⟨g, 0, none⟩) n c) (namesV l)) (hg : some g ≠ ob) (hl : g < w.heap.size) :
    RowsW w ob (vs ++ [.slice (some ⟨g, 0, none⟩) n c]) (cs ++ [l]) := by
  refine ⟨by rw [List.length_append, List.length_append, h.1]; rfl, fun i u x hu hc => ?_⟩
  rcases Nat.lt_or_ge i vs.length with q | q
  · rw [List.getElem?_append_left q] at hu
    rw [List.getElem?_append_left (by rw [← h.1]; exact q)] at hc
    exact h.2 i u x hu hc
  · rw [List.getElem?_append_right q] at hu
    rw [List.getElem?_append_right (by rw [← h.1]; exact q)] at hc
    rw [← h.1] at hc
    have hi0 : i - vs.length = 0 := by
      rcases Nat.eq_zero_or_pos (i - vs.length) with z | z
      · exact z
      · rw [List.getElem?_eq_none (by simp; omega)] at hu; cases hu
    rw [hi0] at hu hc
    simp at hu hc
    subst hu
    subst hc
    exact ⟨g, _, _, rfl, hS, hg, hl⟩
theorem RowsW.below {a b : World} {ob : Option Nat} {vs : List Value} {cs : List (List ByteArray)} (h : RowsW a ob vs cs) (k : Below a.heap.size a b) : RowsW b ob vs cs := h.kc ((KC.refl a).below k)
theorem far_mem {ps : List ByteArray} {ds : List De} {s t : ByteArray} {out : List Int} {j : Nat} {x : Int} (h : FarT ps ds s out) (hs : s ∈ allF ds) (ht : ps[j]? = some t) (hx : out[j]? = some x) : memB (cirF ds s) t = decide (0 ≤ x) := by
  rw [Bool.eq_iff_iff, memB_iff, cir_mem hs, decide_eq_true_iff]
  rcases h.2 j t ht with ⟨d, q1, q2⟩ | ⟨q1, q2⟩
  · rw [hx] at q1
    have q3 : x = (d : Int) := by simpa using q1
    exact ⟨fun _ => by omega, fun _ => ⟨d, q2.1⟩⟩
  · rw [hx] at q1
    have q3 : x = -1 := by simpa using q1
    exact ⟨fun ⟨d, z⟩ => absurd z (q2 d), fun z => by omega⟩
set_option maxRecDepth 100000 in
set_option maxHeartbeats 8000000 in
theorem rcircles_bad (r : Int) (hr : r = 3 ∨ r = 102) (v : Value) (ds : List De) (w : World) (h : DeedsV w v ds) (hs : ShortDs ds) (hc : checkDF ds = r) :
    Calls Tryz.prog 48 #[v] w (CircP [] r w) := by
  have HK := Lib.hid (rcheckDeeds_any v ds w h hs)
  rw [hc] at HK
  obtain ⟨A, c, rfl, _⟩ := h.shape
  clear h hs hc
  rcases hr with rfl | rfl
  all_goals
    go_enter Tryz.func48, Tryz.ntmps48
    go_wp2_with fail
    refine HK.out.mono ?_
    rintro e w1 ⟨rfl, hb1⟩
    have HB := Lib.hid hb1
    clear hb1
    go_wp2
    go_ret2
    exact ⟨HB.out, _, rfl, cir_nil _⟩
set_option maxRecDepth 100000 in
set_option maxHeartbeats 8000000 in
theorem rcircles_good (v : Value) (ds : List De) (w : World) (h : DeedsV w v ds) (hs : ShortDs ds) (hc : checkDF ds = 0) :
    Calls Tryz.prog 48 #[v] w (CircP (circlesF ds) 0 w) := by
  have HK := Lib.hid (rcheckDeeds_any v ds w h hs)
  rw [hc] at HK
  have HP := Lib.hid (fun w' (hw : Below w.heap.size w w') => rpeople_any v ds w' (h.below hw) (checkDF_few hc))
  have HFa := Lib.hid (fun A c s w' (hw : Below w.heap.size w w') (hS : Sl w' 1 (.slice A (allF ds).length c) (namesV (allF ds))) (hb : s ∈ allF ds) => rfar_any v ds A c (allF ds) s w' (h.below hw) (checkDF_few hc).1 hS (Nat.le_trans (allF_length (checkDF_few hc)) (by omega)) hb met_all)
  have hal := allF_length (checkDF_few hc)
  obtain ⟨Av, cv, rfl, _⟩ := h.shape
  clear h hs hc
  go_enter Tryz.func48, Tryz.ntmps48
  go_wp2_with fail
  refine HK.out.mono ?_
  rintro e w1 ⟨rfl, hb1⟩
  have HB1 := Lib.hid hb1
  clear hb1 HK
  go_wp2_with fail
  refine (HP.out _ HB1.out).mono ?_
  rintro e w2 ⟨hb2, A2, c2, rfl, hs2⟩
  have HB2 := Lib.hid (HB1.out.trans (hb2.mono HB1.out.size))
  have HS2 := Lib.hid hs2
  clear hb2 hs2 HP HB1
  obtain ⟨_, _, ea, ha1, ha2, hcell⟩ := names_at2 HS2.out
  cases ea
  have HCp := Lib.hid hcell
  clear hcell
  go_wp2
  go_loopw [6, 7] (fun u6 ti wr => ∃ (k : Nat) (vs : List Value), ti = .int .i64 k ∧ k ≤ (allF ds).length ∧ Hid (wr.ownsRow w2.heap.size 22 1 u6 (circlesK ds k).length vs) ∧ Hid (RowsW wr u6.ownBlock vs (circlesK ds k)) ∧ Hid (Below w2.heap.size w2 wr)) (fun _ ti _ => (allF ds).length - (intOf ti).toNat)
  case atStart => exact ⟨0, [], rfl, by omega, World.ownsRow_nil _ _ _ _, ⟨rfl, (fun i u c hu => by simp at hu)⟩, Below.refl _ _⟩
  case round =>
    obtain ⟨k, vs, rfl, hk, HO, HRw, HB⟩ := hrel
    obtain ⟨A7, c7, e7, _⟩ := own_shape HO.out
    subst e7
    obtain ⟨wo, hwo⟩ : ∃ wo, wo = wr := ⟨_, rfl⟩
    rw [← hwo] at HO HRw HB ⊢
    clear hwo
    by_cases hlt : k < (allF ds).length
    · have hki : (k : Int) < ((allF ds).length : Int) := by omega
      have hk0 : (0 : Int) ≤ (k : Int) := by omega
      obtain ⟨b0, o0, rfl, _, hce⟩ := HCp.out (by omega)
      have hget : (allF ds)[k]? = some (allF ds)[k] := List.getElem?_eq_getElem hlt
      have HCk := Lib.hid (circlesK_succ hget)
      have HCe := Lib.hid hce
      have HLk := Lib.hid (show (circlesK ds k).length ≤ 900 by
        unfold circlesK
        rw [List.length_map]
        have h1 := List.length_filter_le (firstB ds) ((allF ds).take k)
        have h2 := List.length_take_le k (allF ds)
        omega)
      have HSa := Lib.hid (List.getElem_mem hlt)
      have HG1 := Lib.hid (hce k _ hget)
      have c1 := below_cell HB.out HG1.out
      clear hce hget
      generalize (allF ds)[k] = s at *
      have HB3 := Lib.hid (HB2.out.trans (HB.out.mono HB2.out.size))
      go_wp2_with fail
      refine (HFa.out _ c2 s wo HB3.out (HS2.out.below HB.out) HSa.out).mono ?_
      rintro e w3 ⟨hb3, u, out, rfl, hu, hF⟩
      have HB4 := Lib.hid (HB.out.trans (hb3.mono HB.out.size))
      have HOb := Lib.hid (fun q (e : (Value.slice A7 (circlesK ds k).length c7).ownBlock = some q) => Nat.lt_of_lt_of_le (own_lt HO.out e) hb3.size)
      have HO3 := Lib.hid (own_below HO.out hb3)
      have HRw3 := Lib.hid (HRw.out.below hb3)
      have HF := Lib.hid hF
      obtain ⟨Af, cf, rfl, hcf1, hcf2, hcf⟩ := ints_at hu hF.1
      obtain ⟨bf, of', rfl, _, hcf⟩ := hcf (by omega)
      have HCf := Lib.hid hcf
      clear hcf hF hu hb3 c1 HO HRw HB HB3
      have HB0 := Lib.hid (Below.refl w3.heap.size w3)
      go_wp2
      go_loopw [9, 10] (fun u9 ti wr => ∃ j : Nat, ti = .int .i64 j ∧ j ≤ (allF ds).length ∧ Hid (wr.ownsRow w3.heap.size 9 1 u9 (cirK ds s j).length (namesV (cirK ds s j))) ∧ Hid (Below w3.heap.size w3 wr)) (fun _ ti _ => (allF ds).length - (intOf ti).toNat)
      case atStart => exact ⟨0, rfl, by omega, World.ownsRow_nil _ _ _ _, HB0.out⟩
      case round =>
        clear HB0
        obtain ⟨j, rfl, hj, HOc, HBi⟩ := hrel
        have HBw := Lib.hid (HB4.out.trans (HBi.out.mono HB4.out.size))
        by_cases hlj : j < (allF ds).length
        · have hji : (j : Int) < ((allF ds).length : Int) := by omega
          have hj0 : (0 : Int) ≤ (j : Int) := by omega
          have hgj : (allF ds)[j]? = some (allF ds)[j] := List.getElem?_eq_getElem hlj
          obtain ⟨x, hx⟩ : ∃ Y, out[j]? = some Y := ⟨_, List.getElem?_eq_getElem (by rw [HF.out.1]; exact hlj)⟩
          have c1 := below_cell HBw.out (HCe.out j _ hgj)
          have x0 := below_cell HBi.out (HCf.out j _ hx)
          have HM := Lib.hid (far_mem HF.out HSa.out hgj hx)
          have HCj := Lib.hid (cirK_succ (s := s) hgj)
          have hlc := cirK_length ds s j
          clear hgj hx
          generalize (allF ds)[j] = t at *
          by_cases hx0 : 0 ≤ x
          · have d0 : decide (0 ≤ x) = true := decide_eq_true hx0
            have HCn := Lib.hid (show cirK ds s (j + 1) = cirK ds s j ++ [t] by rw [HCj.out, HM.out, d0]; rfl)
            have HOa := Lib.hid (HOc.out.alloc (.cells #[.string t] 9))
            have HBa := Lib.hid (HBi.out.alloc HBi.out.size (.cells #[.string t] 9))
            have HSb := Lib.hid (Sl.new (s := 1) wr 9 1 1 #[.string t] rfl (Nat.le_refl _) (by decide))
            clear HCj HM
            go_wp2_with (at_builtin; refine appStr _ _ rfl rfl rfl rfl HOa.out HSb.out (by simp [Value.oneCell']) (N := (cirK ds s j).length + 1) (by simp) (by omega) HBa.out.size ?_; intro A9 c9 w9 hap)
            have HB9 := Lib.hid (below_of_own hap.grown HOa.out HBa.out (Nat.le_refl _))
            have HO9 := Lib.hid (show w9.ownsRow w3.heap.size 9 1 (.slice A9 ((cirK ds s j).length + 1) c9) (cirK ds s (j + 1)).length (namesV (cirK ds s (j + 1))) by rw [HCn.out, List.length_append, namesV_append]; exact hap.own)
            clear hap HOa HBa HSb c1 x0
            go_wp2
            go_roundw
            case rel => exact ⟨j + 1, by go_num, by omega, HO9.out, HB9.out⟩
            case measure => simp [intOf]; omega
          · have d0 : decide (0 ≤ x) = false := decide_eq_false hx0
            have HCn := Lib.hid (show cirK ds s (j + 1) = cirK ds s j by rw [HCj.out, HM.out, d0]; simp)
            clear HCj HM
            go_wp2
            go_roundw
            case rel => exact ⟨j + 1, by go_num, by omega, by rw [HCn.out]; exact HOc.out, HBi.out⟩
            case measure => simp [intOf]; omega
        · have HE := Lib.hid (cirK_all HSa.out (k := j) (by omega))
          rw [HE.out] at HOc
          have hcp : 0 < (cirF ds s).length := List.length_pos_of_mem ((cir_mem HSa.out).2 (Reach.refl ds s))
          obtain ⟨g, c5, e5⟩ := own_some HOc.out hcp
          subst e5
          have hcpi : (0 : Int) < ((cirF ds s).length : Int) := by omega
          obtain ⟨hd, hh⟩ : ∃ hd, (cirF ds s)[0]? = some hd := ⟨_, List.getElem?_eq_getElem hcp⟩
          have HSc := Lib.hid (Sl.of_own HOc.out)
          obtain ⟨_, _, ec, _, _, hcc⟩ := names_at2 HSc.out
          cases ec
          obtain ⟨_, _, ec, _, hcc⟩ := hcc hcp
          cases ec
          have c0 := hcc 0 _ hh
          rw [Nat.add_zero] at c0
          have c1 := below_cell HBw.out HG1.out
          have HFi := Lib.hid (show firstB ds s = decide (hd = s) by
            unfold firstB
            rw [List.head?_eq_getElem?, hh]
            rw [Bool.eq_iff_iff, decide_eq_true_iff, decide_eq_true_iff]
            exact ⟨fun q => Option.some.inj q, fun q => congrArg some q⟩)
          have hg3 := own_ge HOc.out (g := g) rfl
          have hgl := own_lt HOc.out (g := g) rfl
          clear hcc hh HE
          have HO4 := Lib.hid (own_below HO3.out HBi.out)
          have HRw4 := Lib.hid (HRw3.out.below HBi.out)
          by_cases hq : hd = s
          · have q1 : (hd.toList == s.toList) = true := by rw [hq]; simp
            have HCn := Lib.hid (show circlesK ds (k + 1) = circlesK ds k ++ [cirF ds s] by rw [HCk.out, HFi.out, decide_eq_true hq]; rfl)
            clear hq HFi HCk
            go_upto_region 16 with fail
            go_quiet (fail)
            have HBx := Lib.hid (below_drewN HBw.out nq)
            have HO5 := Lib.hid (own_drewN HO4.out nq)
            have HRw5 := Lib.hid (show RowsW (wr.drewN nq) _ _ _ from HRw4.out)
            have HSc5 := Lib.hid (HSc.out.drewN nq)
            have HBn := Lib.hid (below_drewN HBi.out nq)
            have hgl5 : g < (wr.drewN nq).heap.size := hgl
            clear HO4 HRw4 HSc HBw c0 c1 HOc HBi
            generalize wr.drewN nq = w7 at *
            have hk8 := below_alloc' w7 (.cells #[.slice (some ⟨g, 0, none⟩) (cirF ds s).length c5] 22)
            have HK8 := Lib.hid hk8
            have HRw8 := Lib.hid ((HRw5.out.below hk8).more (HSc5.out.below hk8) (fun e => by have := HOb.out g e.symm; omega) (Nat.lt_of_lt_of_le hgl5 hk8.size))
            have HBx8 := Lib.hid (HBx.out.trans (hk8.mono HBx.out.size))
            clear hk8
            go_wp2_with (at_builtin; refine appStrs _ _ rfl rfl (by rfl) (by rfl) (HO5.out.alloc (.cells #[.slice (some ⟨g, 0, none⟩) (cirF ds s).length c5] 22)) (Sl.new (s := 1) w7 22 1 1 #[.slice (some ⟨g, 0, none⟩) (cirF ds s).length c5] rfl (Nat.le_refl _) (by decide)) (by simp [Value.oneCell']) (N := (circlesK ds k).length + 1) (by simp) (by have := HLk.out; omega) HBx8.out.size ?_; intro A9 c9 w9 hap)
            have HRw9 := Lib.hid (HRw8.out.own hap.grown (ob' := (Value.slice A9 ((circlesK ds k).length + 1) c9).ownBlock) hap.block)
            have HO9 := Lib.hid hap.own
            have HB9 := Lib.hid (below_of_own hap.grown (HO5.out.alloc (.cells #[.slice (some ⟨g, 0, none⟩) (cirF ds s).length c5] 22)) HBx8.out (Nat.le_refl _))
            clear hap
            go_wp2
            refine ⟨⟨k + 1, vs ++ [.slice (some ⟨g, 0, none⟩) (cirF ds s).length c5], by go_num, by omega, ?_, ?_, HB9.out⟩, by simp [intOf]; omega⟩
            · rw [HCn.out, List.length_append, List.length_singleton]
              exact HO9.out
            · rw [HCn.out]
              exact HRw9.out
          · have q1 : (hd.toList == s.toList) = false := by rw [Bool.eq_false_iff]; intro z; exact hq ((Lib.bytes_beq_iff _ _).1 z)
            have HCn := Lib.hid (show circlesK ds (k + 1) = circlesK ds k by rw [HCk.out, HFi.out, decide_eq_false hq]; simp)
            clear hq HFi HCk
            go_upto_region 16 with fail
            go_quiet (fail)
            go_wp2
            exact ⟨⟨k + 1, vs, by go_num, by omega, by rw [HCn.out]; exact own_drewN HO4.out _, by rw [HCn.out]; exact HRw4.out, below_drewN HBw.out _⟩, by simp [intOf]; omega⟩
    · have HE := Lib.hid (circlesK_all (ds := ds) (k := k) (by omega))
      have HBz := Lib.hid (HB2.out.trans (HB.out.mono HB2.out.size))
      have HCz := Lib.hid (show CirV wo (.slice A7 (circlesK ds k).length c7) (circlesF ds) by rw [← HE.out]; exact HRw.out.cir (Sl.of_own HO.out))
      go_wp2
      go_ret2
      exact ⟨HBz.out, _, rfl, HCz.out⟩
/-- The reference answers as the program. -/
theorem rcircles_any (v : Value) (ds : List De) (w : World) (h : DeedsV w v ds) (hs : ShortDs ds) :
    Calls Tryz.prog 48 #[v] w (CircP (if checkDF ds = 0 then circlesF ds else []) (checkDF ds) w) := by
  rcases checkDF_cases ds with hc | hc | hc
  · rw [if_neg (by omega), hc]
    exact rcircles_bad _ (.inl rfl) v ds w h hs hc
  · rw [if_neg (by omega), hc]
    exact rcircles_bad _ (.inr rfl) v ds w h hs hc
  · rw [if_pos hc, hc]
    exact rcircles_good v ds w h hs hc
end Go.Proofs.YtdmcopjbckelmaaGreatDoor
