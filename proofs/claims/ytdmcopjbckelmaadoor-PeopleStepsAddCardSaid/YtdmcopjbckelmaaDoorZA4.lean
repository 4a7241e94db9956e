/- PeopleStepsAdd: the walk. Conditions: those stated. PeopleStepsAdd: the walk of the answer. Conditions: those stated. -/
import Derived.Test.YtdmcopjbckelmaaDoorZA2
import Derived.Test.YtdmcopjbckelmaaDoorZF1
import Derived.Test.YtdmcopjbckelmaaDoorZRB
namespace Go.Proofs.YtdmcopjbckelmaaDoor
section
open Go Go.RowKit Go.Shelf
attribute [local go_sem] Oper.semAt_some

theorem atF_yes2 {l : List ByteArray} {s : ByteArray} (h : s ∈ l) : decide (0 ≤ atF l s) = true ∧ decide (atF l s < 0) = false := by
  rw [atF_mem h]
  exact ⟨decide_eq_true (by omega), decide_eq_false (by omega)⟩
theorem atF_no2 {l : List ByteArray} {s : ByteArray} (h : ¬ s ∈ l) : decide (0 ≤ atF l s) = false ∧ decide (atF l s < 0) = true := by
  rw [atF_none h]
  exact ⟨rfl, rfl⟩
theorem termF_ne (up dn : Nat) : ((termF (up : Int) (dn : Int)).toList.isEmpty) = false := by
  unfold termF
  rw [if_neg (by omega)]
  by_cases h : 0 ≤ (up : Int) ∧ (up : Int) ≤ 2 ∧ 0 ≤ (dn : Int) ∧ (dn : Int) ≤ 2
  · obtain ⟨_, h1, _, h2⟩ := h
    have h1 : up = 0 ∨ up = 1 ∨ up = 2 := by omega
    have h2 : dn = 0 ∨ dn = 1 ∨ dn = 2 := by omega
    rcases h1 with rfl | rfl | rfl <;> rcases h2 with rfl | rfl | rfl <;> first | kernel_rfl | decide +kernel
  · rw [termS_none h]
    simp only
    split
    · first | kernel_rfl | decide +kernel
    · split <;> first | kernel_rfl | decide +kernel
theorem step_bound {ps : List ByteArray} {fs : List Fa} {a s : ByteArray} {i k : Nat} (hf : AllAbout ps fs) (hp : ps.length ≤ 24) (ha : a ∈ ps) (h : (abI fs [a] i).2 = []) (hm : (s, k) ∈ (abI fs [a] i).1) : k < 25 := by
  have hg := abI_good hf (frm := [a]) (fun s q => by rw [List.mem_singleton.1 q]; exact ha) 25
  have h25 : (abI fs [a] 25).2 = [] := by
    by_cases q : (abI fs [a] 25).2 = []
    · exact q
    · exfalso
      have h1 := hg.many q
      have h2 := nodup_le hg.once (fun s hs => by obtain ⟨p, hp, rfl⟩ := List.mem_map.1 hs; exact hg.who p hp)
      rw [List.length_map] at h2
      omega
  rw [abI_uniq h h25] at hm
  exact abI_steps fs [a] 25 _ hm
theorem named_two {ps : List ByteArray} {fs : List Fa} {a b : ByteArray} (h : namedF ps fs [a] = 0) (k : namedF ps fs [b] = 0) : namedF ps fs [a, b] = 0 ∧ namedF ps fs [b, a] = 0 := by
  rcases namedF_cases ps fs [a] with hr | ⟨_, hc, _, _, _, hm⟩
  · omega
  · rcases namedF_cases ps fs [b] with hr | ⟨_, _, _, _, _, hn⟩
    · omega
    · have h1 := memB_iff.2 (hm a (by simp))
      have h2 := memB_iff.2 (hn b (by simp))
      unfold namedF allN
      rw [hc]
      simp [h1, h2]
theorem ancestors_some (A : Option Addr) (n c : Nat) (F : Option Addr) (m d : Nat) (ps : List ByteArray) (fs : List Fa) (a : ByteArray) (w : World) (h : NetC w A n c F m d ps fs) (hs : Short ps) :
    Calls Tryd.prog 41 #[.agg #[.slice A n c, .slice F m d], .string a] w fun e w' => (∃ v, e = .returned (.tuple #[v, .int .i64 (namedF ps fs [a])])) ∧ Below w.heap.size w w' := by
  rcases namedF_cases ps fs [a] with hr | ⟨hc, _, hp, hfew, hf, _⟩
  · exact (ancestors_bad _ hr A n c F m d ps fs a w h hs rfl).mono fun e w' q => ⟨⟨_, q.1⟩, q.2⟩
  · rw [hc]
    exact (ancestors_good A n c F m d ps fs a w h hs hc hf hp hfew).mono fun e w' ⟨hb, v, l, he, _, _⟩ => ⟨⟨v, he⟩, hb⟩
set_option maxRecDepth 100000 in
set_option maxHeartbeats 4000000 in
theorem stepsAdd_bad (ra rb : Int) (hr : (ra = 3 ∨ ra = 100 ∨ ra = 2) ∨ (ra = 0 ∧ (rb = 3 ∨ rb = 100 ∨ rb = 2))) (A : Option Addr) (n k : Nat) (F : Option Addr) (m d : Nat) (ps : List ByteArray) (fs : List Fa) (a b c : ByteArray) (w : World) (h : NetC w A n k F m d ps fs) (hs : Short ps) (hz : Zw w) (ha : namedF ps fs [a] = ra) (hb : namedF ps fs [b] = rb) :
    Calls Tryd.prog 11 #[.agg #[.slice A n k, .slice F m d], .agg #[.string a, .string b, .string c]] w fun e w' => e = .returned (.bool true) ∧ Below w.heap.size w w' := by
  have hb0 := (below_alloc' w (.cells #[.slice A n k, .slice F m d] 25)).alloc (by simp) (.cells #[.string a, .string b, .string c] 72)
  have y0 := (Cel.new w 25 #[.slice A n k, .slice F m d]).alloc (.cells #[.string a, .string b, .string c] 72)
  have y1 := Cel.new (w.alloc (.cells #[.slice A n k, .slice F m d] 25)) 72 #[.string a, .string b, .string c]
  rw [World.size_alloc] at y1
  obtain ⟨W, hW⟩ : ∃ W, ((w.alloc (.cells #[.slice A n k, .slice F m d] 25)).alloc (.cells #[.string a, .string b, .string c] 72)) = W := ⟨_, rfl⟩
  rw [hW] at hb0 y0 y1
  have HB0 := Lib.hid hb0
  have HY := Lib.hid y0
  have HWk := Lib.hid (fun w' hb => works_any w' (hz.below hb))
  have HS1 := Lib.hid (fun w' (hw : Below w.heap.size w w') => ancestors_some A n k F m d ps fs a w' (h.below hw) hs)
  have HS2 := Lib.hid (fun w' (hw : Below w.heap.size w w') => ancestors_some A n k F m d ps fs b w' (h.below hw) hs)
  rw [ha] at HS1
  rw [hb] at HS2
  have z0 := y0.cell 0 _ rfl
  have z1 := y0.cell 1 _ rfl
  have x0 := y1.cell 0 _ rfl
  have x1 := y1.cell 1 _ rfl
  have x2 := y1.cell 2 _ rfl
  clear h hs hz hb0 y0 y1 ha hb
  rcases hr with hr | ⟨rfl, hr⟩
  all_goals rcases hr with rfl | rfl | rfl
  all_goals
    go_enter Tryd.func11, Tryd.ntmps11
    go_upto_region 1 with fail
    go_quiet (fail)
    clear x0 x1 x2
    go_wp2_with fail
    refine (HS1.out _ (below_drewN HB0.out _)).mono ?_
    rintro e w1 ⟨⟨v1, rfl⟩, hb1⟩
    clear z0 z1
    have HB1 := Lib.hid ((below_drewN HB0.out _).trans (hb1.mono (below_drewN HB0.out _).size))
    replace HY := Lib.hid ((show Cel (World.drewN W _) _ _ _ from HY.out).below HY.out.lt hb1)
    have z0 := HY.out.cell 0 _ rfl
    have z1 := HY.out.cell 1 _ rfl
    clear hb1
    go_wp2_with fail
    clear z0 z1
    refine (HS2.out _ HB1.out).mono ?_
    rintro e w2 ⟨⟨v2, rfl⟩, hb2⟩
    have HB2 := Lib.hid (HB1.out.trans (hb2.mono HB1.out.size))
    clear hb2
    go_wp2_with fail
    refine (HWk.out _ HB2.out).mono ?_
    rintro e w3 ⟨rfl, hb3⟩
    have HB3 := Lib.hid (HB2.out.trans (hb3.mono HB2.out.size))
    clear hb3
    go_wp2
    go_ret
    exact ⟨rfl, HB3.out⟩
end

section
open Go Go.RowKit Go.Shelf
attribute [local go_sem] Oper.semAt_some

set_option maxRecDepth 100000 in
set_option maxHeartbeats 8000000 in
theorem stepsAdd_good (A : Option Addr) (n k : Nat) (F : Option Addr) (m d : Nat) (ps : List ByteArray) (fs : List Fa) (a b c : ByteArray) (w : World) (h : NetC w A n k F m d ps fs) (hs : Short ps) (hz : Zw w) (ha : namedF ps fs [a] = 0) (hb : namedF ps fs [b] = 0) (hp : ps.length ≤ 24) (hfew : fs.length ≤ 48) (hf : AllAbout ps fs) (hma : a ∈ ps) (hmb : b ∈ ps) :
    Calls Tryd.prog 11 #[.agg #[.slice A n k, .slice F m d], .agg #[.string a, .string b, .string c]] w fun e w' => e = .returned (.bool true) ∧ Below w.heap.size w w' := by
  have hb0 := (below_alloc' w (.cells #[.slice A n k, .slice F m d] 25)).alloc (by simp) (.cells #[.string a, .string b, .string c] 72)
  have y0 := (Cel.new w 25 #[.slice A n k, .slice F m d]).alloc (.cells #[.string a, .string b, .string c] 72)
  have y1 := Cel.new (w.alloc (.cells #[.slice A n k, .slice F m d] 25)) 72 #[.string a, .string b, .string c]
  rw [World.size_alloc] at y1
  obtain ⟨W, hW⟩ : ∃ W, ((w.alloc (.cells #[.slice A n k, .slice F m d] 25)).alloc (.cells #[.string a, .string b, .string c] 72)) = W := ⟨_, rfl⟩
  rw [hW] at hb0 y0 y1
  have HB0 := Lib.hid hb0
  have HY := Lib.hid y0
  have HWk := Lib.hid (fun w' hb => works_any w' (hz.below hb))
  have HS1 := Lib.hid (fun w' (hw : Below w.heap.size w w') => ancestors_good A n k F m d ps fs a w' (h.below hw) hs ha hf hp hfew)
  have HS2 := Lib.hid (fun w' (hw : Below w.heap.size w w') => ancestors_good A n k F m d ps fs b w' (h.below hw) hs hb hf hp hfew)
  have HPa := Lib.hid (fun w' (hw : Below w.heap.size w w') => pParents_any A n k F m d ps fs a w' (h.below hw) hs)
  have HCh := Lib.hid (fun w' (hw : Below w.heap.size w w') => pChildren_any A n k F m d ps fs b w' (h.below hw) hs)
  rw [ha, if_pos rfl] at HPa
  rw [hb, if_pos rfl] at HCh
  obtain ⟨hab1, hab2⟩ := named_two ha hb
  have HK1 := Lib.hid (fun w' (hw : Below w.heap.size w w') => kin_good A n k F m d ps fs a b w' (h.below hw) hs hab1 hma hmb hf hp hfew)
  have HK2 := Lib.hid (fun w' (hw : Below w.heap.size w w') => kin_good A n k F m d ps fs b a w' (h.below hw) hs hab2 hmb hma hf hp hfew)
  have HBa := Lib.hid (fun i s q hi hm => step_bound (i := i) (s := s) (k := q) hf hp hma hi hm)
  have HBb := Lib.hid (fun i s q hi hm => step_bound (i := i) (s := s) (k := q) hf hp hmb hi hm)
  have z0 := y0.cell 0 _ rfl
  have z1 := y0.cell 1 _ rfl
  have x0 := y1.cell 0 _ rfl
  have x1 := y1.cell 1 _ rfl
  have x2 := y1.cell 2 _ rfl
  clear h hs hz hb0 y0 y1 ha hb hab1 hab2 hp hfew hf hma hmb
  go_enter Tryd.func11, Tryd.ntmps11
  go_upto_region 1 with fail
  go_quiet (fail)
  clear x0 x1 x2
  have HB00 := Lib.hid (below_drewN HB0.out nq)
  replace HY : Hid (Cel (W.drewN nq) _ _ _) := HY
  go_wp2_with fail
  clear z0 z1
  refine (HS1.out _ HB00.out).mono ?_
  rintro e w1 ⟨hbx, v1, l1, rfl, hv1, hl1⟩
  have HB1 := Lib.hid (HB00.out.trans (hbx.mono HB00.out.size))
  have HV1 := Lib.hid hv1
  have HL1 := Lib.hid hl1
  clear hv1 hl1
  replace HY := Lib.hid (HY.out.below HY.out.lt hbx)
  have z0 := HY.out.cell 0 _ rfl
  have z1 := HY.out.cell 1 _ rfl
  clear hbx
  go_wp2_with fail
  clear z0 z1
  refine (HS2.out _ HB1.out).mono ?_
  rintro e w2 ⟨hbx, v2, l2, rfl, hv2, hl2⟩
  have HB2 := Lib.hid (HB1.out.trans (hbx.mono HB1.out.size))
  replace HV1 := Lib.hid (HV1.out.below hbx)
  have HV2 := Lib.hid hv2
  have HL2 := Lib.hid hl2
  clear hv2 hl2
  replace HY := Lib.hid (HY.out.below HY.out.lt hbx)
  have z0 := HY.out.cell 0 _ rfl
  have z1 := HY.out.cell 1 _ rfl
  clear hbx
  go_upto_region 6 with fail
  go_cut [62] (fun t wx => t = .bool false ∧ wx = w2)
  case first =>
    by_cases m1 : b ∈ l1
    · obtain ⟨d1, d2⟩ := atF_yes2 m1
      by_cases m2 : c ∈ l2
      · obtain ⟨d3, d4⟩ := atF_yes2 m2
        have m3 : c ∈ l1 := (HL1.out c).2 (((HL1.out b).1 m1).trans ((HL2.out c).1 m2))
        obtain ⟨d5, d6⟩ := atF_yes2 m3
        clear m1 m2 m3
        go_wp2_with fail
        refine (rAt_any _ l1 b _ HV1.out).mono ?_
        rintro e wx ⟨rfl, rfl⟩
        go_wp2_with fail
        refine (rAt_any _ l2 c _ HV2.out).mono ?_
        rintro e wx ⟨rfl, rfl⟩
        go_wp2_with fail
        refine (rAt_any _ l1 c _ HV1.out).mono ?_
        rintro e wx ⟨rfl, rfl⟩
        go_wp2
        go_meet
        exact ⟨rfl, rfl⟩
      · obtain ⟨d3, d4⟩ := atF_no2 m2
        clear m1 m2
        go_wp2_with fail
        refine (rAt_any _ l1 b _ HV1.out).mono ?_
        rintro e wx ⟨rfl, rfl⟩
        go_wp2_with fail
        refine (rAt_any _ l2 c _ HV2.out).mono ?_
        rintro e wx ⟨rfl, rfl⟩
        go_wp2
        go_meet
        exact ⟨rfl, rfl⟩
    · obtain ⟨d1, d2⟩ := atF_no2 m1
      clear m1
      go_wp2_with fail
      refine (rAt_any _ l1 b _ HV1.out).mono ?_
      rintro e wx ⟨rfl, rfl⟩
      go_wp2
      go_meet
      exact ⟨rfl, rfl⟩
  case rest =>
    obtain ⟨rfl, hwx⟩ := hcut
    subst hwx
    go_wp2_with fail
    clear z0 z1
    refine (HPa.out _ HB2.out).mono ?_
    rintro e w3 ⟨hbx, vp, rfl, hvp⟩
    have HB3 := Lib.hid (HB2.out.trans (hbx.mono HB2.out.size))
    replace HV1 := Lib.hid (HV1.out.below hbx)
    replace HV2 := Lib.hid (HV2.out.below hbx)
    have HVp := Lib.hid hvp
    clear hvp
    replace HY := Lib.hid (HY.out.below HY.out.lt hbx)
    have z0 := HY.out.cell 0 _ rfl
    have z1 := HY.out.cell 1 _ rfl
    clear hbx
    go_wp2_with fail
    clear z0 z1
    refine (HCh.out _ HB3.out).mono ?_
    rintro e w4 ⟨hbx, vq, rfl, hvq⟩
    have HB4 := Lib.hid (HB3.out.trans (hbx.mono HB3.out.size))
    replace HV1 := Lib.hid (HV1.out.below hbx)
    replace HV2 := Lib.hid (HV2.out.below hbx)
    replace HVp := Lib.hid (HVp.out.below hbx)
    have HVq := Lib.hid hvq
    clear hvq
    replace HY := Lib.hid (HY.out.below HY.out.lt hbx)
    have z0 := HY.out.cell 0 _ rfl
    have z1 := HY.out.cell 1 _ rfl
    clear hbx
    go_wp2_with fail
    clear z0 z1
    refine (HK1.out _ HB4.out).mono ?_
    rintro e w5 ⟨hbx, iA, iB, fd, up, dn, e1, e2, hbp, he⟩
    have HB5 := Lib.hid (HB4.out.trans (hbx.mono HB4.out.size))
    obtain ⟨ei, hei⟩ : ∃ ei, (if fd = true then (0 : Int) else 4) = ei := ⟨_, rfl⟩
    rw [hei] at he
    subst he
    have HEi := Lib.hid hei
    clear hei
    replace HV1 := Lib.hid (HV1.out.below hbx)
    replace HV2 := Lib.hid (HV2.out.below hbx)
    replace HVp := Lib.hid (HVp.out.below hbx)
    replace HVq := Lib.hid (HVq.out.below hbx)
    have HE1 := Lib.hid e1
    have HE2 := Lib.hid e2
    have HBp := Lib.hid hbp
    clear e1 e2 hbp
    replace HY := Lib.hid (HY.out.below HY.out.lt hbx)
    have z0 := HY.out.cell 0 _ rfl
    have z1 := HY.out.cell 1 _ rfl
    clear hbx
    go_wp2_with fail
    clear z0 z1
    refine (HK2.out _ HB5.out).mono ?_
    rintro e w6 ⟨hbx, jB, jA, fd2, bk, ft, e1, e2, hbp, he⟩
    have HB6 := Lib.hid (HB5.out.trans (hbx.mono HB5.out.size))
    replace HV1 := Lib.hid (HV1.out.below hbx)
    replace HV2 := Lib.hid (HV2.out.below hbx)
    replace HVp := Lib.hid (HVp.out.below hbx)
    replace HVq := Lib.hid (HVq.out.below hbx)
    obtain ⟨hfd, hsum⟩ := kin_turn HE1.out HE2.out HBp.out e1 e2 hbp
    subst hfd
    rw [HEi.out] at he
    subst he
    have HSum := Lib.hid hsum
    have HE3 := Lib.hid e1
    have HE4 := Lib.hid e2
    have HBp2 := Lib.hid hbp
    clear e1 e2 hbp hsum
    replace HY := Lib.hid (HY.out.below HY.out.lt hbx)
    have z0 := HY.out.cell 0 _ rfl
    have z1 := HY.out.cell 1 _ rfl
    clear hbx
    clear z0 z1
    have HPm : Hid (b ∈ parentsF fs a ↔ a ∈ childrenF fs b) := parent_child
    go_upto_region 12 with fail
    go_cut [125] (fun t wx => t = .bool false ∧ wx = w6)
    case first =>
      cases fd with
      | false =>
        have h4 : ei = 4 := by have := HEi.out; simpa using this.symm
        subst h4
        by_cases mp : b ∈ parentsF fs a
        · obtain ⟨d1, d2⟩ := atF_yes2 mp
          obtain ⟨d3, d4⟩ := atF_yes2 (HPm.out.1 mp)
          clear mp
          go_wp2_with fail
          refine (rAt_any _ (parentsF fs a) b _ HVp.out).mono ?_
          rintro e wx ⟨rfl, rfl⟩
          go_wp2_with fail
          refine (rAt_any _ (childrenF fs b) a _ HVq.out).mono ?_
          rintro e wx ⟨rfl, rfl⟩
          go_wp2
          go_meet
          exact ⟨rfl, rfl⟩
        · obtain ⟨d1, d2⟩ := atF_no2 mp
          obtain ⟨d3, d4⟩ := atF_no2 (fun q => mp (HPm.out.2 q))
          clear mp
          go_wp2_with fail
          refine (rAt_any _ (parentsF fs a) b _ HVp.out).mono ?_
          rintro e wx ⟨rfl, rfl⟩
          go_wp2_with fail
          refine (rAt_any _ (childrenF fs b) a _ HVq.out).mono ?_
          rintro e wx ⟨rfl, rfl⟩
          go_wp2
          go_meet
          exact ⟨rfl, rfl⟩
      | true =>
        have h4 : ei = 0 := by have := HEi.out; simpa using this.symm
        subst h4
        have hs := HSum.out rfl
        obtain ⟨s1, q1, q2⟩ := kin_is HBp.out rfl
        obtain ⟨s2, q3, q4⟩ := kin_is HBp2.out rfl
        have b1 := HBa.out _ _ _ HE1.out q1
        have b2 := HBb.out _ _ _ HE2.out q2
        have b3 := HBb.out _ _ _ HE3.out q3
        have b4 := HBa.out _ _ _ HE4.out q4
        have hw1 : IntKind.i64.wrap ((up : Int) + (dn : Int)) = (up : Int) + (dn : Int) := IntWalk.i64_in _ (by omega)
        have hw2 : IntKind.i64.wrap ((bk : Int) + (ft : Int)) = (bk : Int) + (ft : Int) := IntWalk.i64_in _ (by omega)
        have hne : (((up : Int) + (dn : Int)) != ((bk : Int) + (ft : Int))) = false := by
          rw [show (up : Int) + (dn : Int) = (bk : Int) + (ft : Int) by omega]
          simp
        clear hs q1 q2 q3 q4 b1 b2 b3 b4
        by_cases mp : b ∈ parentsF fs a
        · obtain ⟨d1, d2⟩ := atF_yes2 mp
          obtain ⟨d3, d4⟩ := atF_yes2 (HPm.out.1 mp)
          clear mp
          go_wp2_with fail
          refine (rAt_any _ (parentsF fs a) b _ HVp.out).mono ?_
          rintro e wx ⟨rfl, rfl⟩
          go_wp2_with fail
          refine (rAt_any _ (childrenF fs b) a _ HVq.out).mono ?_
          rintro e wx ⟨rfl, rfl⟩
          go_wp2
          go_meet
          exact ⟨rfl, rfl⟩
        · obtain ⟨d1, d2⟩ := atF_no2 mp
          obtain ⟨d3, d4⟩ := atF_no2 (fun q => mp (HPm.out.2 q))
          clear mp
          go_wp2_with fail
          refine (rAt_any _ (parentsF fs a) b _ HVp.out).mono ?_
          rintro e wx ⟨rfl, rfl⟩
          go_wp2_with fail
          refine (rAt_any _ (childrenF fs b) a _ HVq.out).mono ?_
          rintro e wx ⟨rfl, rfl⟩
          go_wp2
          go_meet
          exact ⟨rfl, rfl⟩
    case rest =>
      obtain ⟨rfl, hwx⟩ := hcut
      subst hwx
      have HFd := Lib.hid (kin_found HE1.out HE2.out HBp.out)
      cases fd with
      | false =>
        have h4 : ei = 4 := by have := HEi.out; simpa using this.symm
        subst h4
        have hno : ∀ s, Up fs a s → Up fs b s → False := fun s u v => by cases HFd.out.2 ⟨s, u, v⟩
        have hab : a ≠ b := fun q => hno a (.here a) (q ▸ .here a)
        have heq : (a.toList == b.toList) = false := by rw [Bool.eq_false_iff]; intro z; exact hab ((Lib.bytes_beq_iff _ _).1 z)
        have hne : (a.toList != b.toList) = true := by rw [bne, heq]; rfl
        obtain ⟨d1, d2⟩ := atF_no2 (fun (q : b ∈ l1) => hno b ((HL1.out b).1 q).up (.here b))
        obtain ⟨d3, d4⟩ := atF_no2 (fun (q : a ∈ l2) => hno a (.here a) ((HL2.out a).1 q).up)
        clear hno hab
        go_wp2_with fail
        refine (rAt_any _ l1 b _ HV1.out).mono ?_
        rintro e wx ⟨rfl, rfl⟩
        go_wp2_with fail
        refine (rAt_any _ l2 a _ HV2.out).mono ?_
        rintro e wx ⟨rfl, rfl⟩
        go_wp2_with fail
        refine (HWk.out _ HB6.out).mono ?_
        rintro e wz ⟨rfl, hbz⟩
        have HBz := Lib.hid (HB6.out.trans (hbz.mono HB6.out.size))
        clear hbz
        go_wp2
        go_ret
        exact ⟨rfl, HBz.out⟩
      | true =>
        have h4 : ei = 0 := by have := HEi.out; simpa using this.symm
        subst h4
        obtain ⟨s1, q1, q2⟩ := kin_is HBp.out rfl
        have b1 := HBa.out _ _ _ HE1.out q1
        have b2 := HBb.out _ _ _ HE2.out q2
        have hw1 : IntKind.i64.wrap ((up : Int) + (dn : Int)) = (up : Int) + (dn : Int) := IntWalk.i64_in _ (by omega)
        have hterm := termF_ne up dn
        have HTm := Lib.hid (fun w' => term_any (up : Int) (dn : Int) w')
        have HSelf := Lib.hid (fun q => kin_self HE1.out HE2.out HBp.out q rfl)
        have HPar := Lib.hid (fun q r => kin_parent HE1.out HE2.out HBp.out q r rfl)
        generalize termF (up : Int) (dn : Int) = tt at *
        clear q1 q2
        by_cases hab : a = b
        · obtain ⟨e1, e2⟩ := HSelf.out hab
          have g1 : ((up : Int) == 0) = true := by rw [beq_iff_eq]; omega
          have g2 : ((dn : Int) == 0) = true := by rw [beq_iff_eq]; omega
          have heq : (a.toList == b.toList) = true := by rw [hab]; simp
          have hne : (a.toList != b.toList) = false := by rw [bne, heq]; rfl
          clear e1 e2 hab
          by_cases mp : b ∈ parentsF fs a
          · obtain ⟨d1, d2⟩ := atF_yes2 mp
            clear mp
            go_wp2_with fail
            refine (rAt_any _ (parentsF fs a) b _ HVp.out).mono ?_
            rintro e wx ⟨rfl, rfl⟩
            go_wp2_with fail
            refine (HTm.out _).mono ?_
            rintro e w7 ⟨rfl, hb7⟩
            have HB7 := Lib.hid (HB6.out.trans (hb7.mono HB6.out.size))
            clear hb7
            go_wp2_with fail
            refine (HWk.out _ HB7.out).mono ?_
            rintro e wz ⟨rfl, hbz⟩
            have HBz := Lib.hid (HB7.out.trans (hbz.mono HB7.out.size))
            clear hbz
            go_wp2
            go_ret
            exact ⟨rfl, HBz.out⟩
          · obtain ⟨d1, d2⟩ := atF_no2 mp
            clear mp
            go_wp2_with fail
            refine (rAt_any _ (parentsF fs a) b _ HVp.out).mono ?_
            rintro e wx ⟨rfl, rfl⟩
            go_wp2_with fail
            refine (HTm.out _).mono ?_
            rintro e w7 ⟨rfl, hb7⟩
            have HB7 := Lib.hid (HB6.out.trans (hb7.mono HB6.out.size))
            clear hb7
            go_wp2_with fail
            refine (HWk.out _ HB7.out).mono ?_
            rintro e wz ⟨rfl, hbz⟩
            have HBz := Lib.hid (HB7.out.trans (hbz.mono HB7.out.size))
            clear hbz
            go_wp2
            go_ret
            exact ⟨rfl, HBz.out⟩
        · have heq : (a.toList == b.toList) = false := by rw [Bool.eq_false_iff]; intro z; exact hab ((Lib.bytes_beq_iff _ _).1 z)
          have hne : (a.toList != b.toList) = true := by rw [bne, heq]; rfl
          by_cases mp : b ∈ parentsF fs a
          · obtain ⟨d1, d2⟩ := atF_yes2 mp
            have g1 : (((up : Int) + (dn : Int)) == 1) = true := by have := HPar.out mp hab; rw [beq_iff_eq]; omega
            clear mp hab
            go_wp2_with fail
            refine (rAt_any _ (parentsF fs a) b _ HVp.out).mono ?_
            rintro e wx ⟨rfl, rfl⟩
            go_wp2_with fail
            refine (HTm.out _).mono ?_
            rintro e w7 ⟨rfl, hb7⟩
            have HB7 := Lib.hid (HB6.out.trans (hb7.mono HB6.out.size))
            clear hb7
            go_wp2_with fail
            refine (HWk.out _ HB7.out).mono ?_
            rintro e wz ⟨rfl, hbz⟩
            have HBz := Lib.hid (HB7.out.trans (hbz.mono HB7.out.size))
            clear hbz
            go_wp2
            go_ret
            exact ⟨rfl, HBz.out⟩
          · obtain ⟨d1, d2⟩ := atF_no2 mp
            clear mp hab
            go_wp2_with fail
            refine (rAt_any _ (parentsF fs a) b _ HVp.out).mono ?_
            rintro e wx ⟨rfl, rfl⟩
            go_wp2_with fail
            refine (HTm.out _).mono ?_
            rintro e w7 ⟨rfl, hb7⟩
            have HB7 := Lib.hid (HB6.out.trans (hb7.mono HB6.out.size))
            clear hb7
            go_wp2_with fail
            refine (HWk.out _ HB7.out).mono ?_
            rintro e wz ⟨rfl, hbz⟩
            have HBz := Lib.hid (HB7.out.trans (hbz.mono HB7.out.size))
            clear hbz
            go_wp2
            go_ret
            exact ⟨rfl, HBz.out⟩
theorem stepsAdd_any (A : Option Addr) (n k : Nat) (F : Option Addr) (m d : Nat) (ps : List ByteArray) (fs : List Fa) (a b c : ByteArray) (w : World) (h : NetC w A n k F m d ps fs) (hs : Short ps) (hz : Zw w) :
    Calls Tryd.prog 11 #[.agg #[.slice A n k, .slice F m d], .agg #[.string a, .string b, .string c]] w fun e w' => e = .returned (.bool true) ∧ Below w.heap.size w w' := by
  rcases namedF_cases ps fs [a] with hr | ⟨ha, _, hp, hfew, hf, hm⟩
  · exact stepsAdd_bad _ _ (.inl hr) A n k F m d ps fs a b c w h hs hz rfl rfl
  · rcases namedF_cases ps fs [b] with hr | ⟨hb, _, _, _, _, hn⟩
    · exact stepsAdd_bad _ _ (.inr ⟨ha, hr⟩) A n k F m d ps fs a b c w h hs hz rfl rfl
    · exact stepsAdd_good A n k F m d ps fs a b c w h hs hz ha hb hp hfew hf (hm a (by simp)) (hn b (by simp))
end
end Go.Proofs.YtdmcopjbckelmaaDoor
