/- PeopleMergeKeeps: the walk. Conditions: those stated. -/
import Derived.Test.YtdmcopjbckelmaaDoorZF1
import Derived.Test.YtdmcopjbckelmaaDoorZRB
import Derived.Test.YtdmcopjbckelmaaDoorZH
namespace Go.Proofs.YtdmcopjbckelmaaDoor
open Go Go.RowKit Go.Shelf
attribute [local go_sem] Oper.semAt_some

theorem namedF_turn (ps : List ByteArray) (fs : List Fa) (a b : ByteArray) : namedF ps fs [b, a] = namedF ps fs [a, b] := by
  unfold namedF allN
  simp only [List.all_cons, List.all_nil, Bool.and_true]
  rw [Bool.and_comm]
theorem named_one {ps : List ByteArray} {fs : List Fa} {a b : ByteArray} (h : namedF ps fs [a, b] = 0) : namedF ps fs [a] = 0 := by
  rcases namedF_cases ps fs [a, b] with hr | ⟨_, hc, _, _, _, hm⟩
  · omega
  · have := memB_iff.2 (hm a (by simp))
    unfold namedF allN
    rw [hc, if_neg (fun q => q rfl)]
    simp [this]
theorem merge_none_turn {a b : ByteArray} {fs : List Fa} (h : mergeF a b fs = none) : mergeF b a fs = none := by
  rw [mergeF_none] at h ⊢
  obtain ⟨f, h1, h2, h3⟩ := h
  exact ⟨f, h1, by rw [bothB_comm]; exact h2, h3⟩
section
variable {ps : List ByteArray} {fs gs hs : List Fa} {a b : ByteArray} (hc : checkF ps fs = 0) (hab : a ≠ b) (ha : a ∈ ps) (hb : b ∈ ps)
include hc hab ha hb
theorem merged_parts (hm : mergeF a b fs = some gs) : (mergeP b ps).length ≤ 24 ∧ AllAbout (mergeP b ps) gs := by
  have := merge_check hc hab ha hb hm
  rcases checkF_cases (mergeP b ps) gs with q | q | ⟨_, h1, _, _, h2⟩
  · omega
  · omega
  · exact ⟨h1, h2⟩
theorem consF_merged (hm : mergeF a b fs = some gs) : consF (mergeP b ps) gs = (solveF (mergeP b ps) gs).isSome := by
  unfold consF
  rw [merge_check hc hab ha hb hm]
  rfl
theorem merged_le (hm : mergeF a b fs = some gs) (hn : mergeF b a fs = some hs) (h : (solveF (mergeP b ps) gs).isSome = true) : (solveF (mergeP a ps) hs).isSome = true := by
  obtain ⟨p1, p2⟩ := merged_parts hc hab ha hb hm
  obtain ⟨q1, q2⟩ := merged_parts hc (Ne.symm hab) hb ha hn
  obtain ⟨B, E, hN⟩ := (isSome_nsol p1 p2).1 h
  exact (isSome_nsol q1 q2).2 ⟨_, _, merge_turn hab ha hm hn hN⟩
theorem merged_cons (hm : mergeF a b fs = some gs) (h : (solveF (mergeP b ps) gs).isSome = true) : consF ps fs = true := by
  obtain ⟨p1, p2⟩ := merged_parts hc hab ha hb hm
  obtain ⟨B, E, hN⟩ := (isSome_nsol p1 p2).1 h
  rcases checkF_cases ps fs with q | q | ⟨_, h1, _, _, h2⟩
  · omega
  · omega
  · have := (isSome_nsol h1 h2).2 ⟨_, _, merge_cons hab ha hm hN⟩
    unfold consF
    rw [hc, this]
    rfl
end
theorem same_turn {ps : List ByteArray} {fs : List Fa} {a b : ByteArray} (hc : checkF ps fs = 0) (hn : namedF ps fs [a, b] = 0) (hab : a ≠ b) (ha : a ∈ ps) (hb : b ∈ ps) :
    sameV ps fs b a = sameV ps fs a b ∧ (sameV ps fs a b).2 = 0 := by
  cases hm : mergeF a b fs with
  | none =>
    have e1 : sameV ps fs a b = (false, 0) := by
      unfold sameV
      rw [hn, if_neg (fun q => q rfl), if_neg hab, hm]
    have e2 : sameV ps fs b a = (false, 0) := by
      unfold sameV
      rw [namedF_turn, hn, if_neg (fun q => q rfl), if_neg (Ne.symm hab), merge_none_turn hm]
    rw [e1, e2]
    exact ⟨rfl, rfl⟩
  | some gs =>
    cases hm2 : mergeF b a fs with
    | none => rw [merge_none_turn hm2] at hm; cases hm
    | some hs =>
      have e1 : sameV ps fs a b = ((solveF (mergeP b ps) gs).isSome, 0) := by
        unfold sameV
        rw [hn, if_neg (fun q => q rfl), if_neg hab, hm]
        simp only
        rw [merge_check hc hab ha hb hm, consF_merged hc hab ha hb hm]
      have e2 : sameV ps fs b a = ((solveF (mergeP a ps) hs).isSome, 0) := by
        unfold sameV
        rw [namedF_turn, hn, if_neg (fun q => q rfl), if_neg (Ne.symm hab), hm2]
        simp only
        rw [merge_check hc (Ne.symm hab) hb ha hm2, consF_merged hc (Ne.symm hab) hb ha hm2]
      rw [e1, e2]
      refine ⟨?_, rfl⟩
      congr 1
      rw [Bool.eq_iff_iff]
      exact ⟨merged_le hc (Ne.symm hab) hb ha hm2 hm, merged_le hc hab ha hb hm hm2⟩
theorem parent_merge {fs : List Fa} {a b : ByteArray} (h : b ∈ parentsF fs a) : mergeF a b fs = none := by
  have h1 := mem_setL.1 h
  unfold parentsL at h1
  obtain ⟨f, hf, rfl⟩ := List.mem_map.1 h1
  obtain ⟨hf1, hf2⟩ := List.mem_filter.1 hf
  simp only [Bool.and_eq_true, decide_eq_true_eq] at hf2
  refine mergeF_none.2 ⟨f, hf1, ?_, hf2.1⟩
  unfold bothB pairB
  rw [hf2.1, hf2.2]
  simp
theorem memP_no (b : ByteArray) (ps : List ByteArray) : ¬ b ∈ mergeP b ps := fun q => (mergeP_mem.1 q).2 rfl
set_option maxRecDepth 100000 in
set_option maxHeartbeats 8000000 in
theorem mergeKeeps_bad (r : Int) (hr : r = 3 ∨ r = 100 ∨ r = 2) (A : Option Addr) (c : Nat) (F : Option Addr) (d : Nat) (ps : List ByteArray) (fs : List Fa) (a b : ByteArray) (w : World) (h : NetC w A ps.length c F fs.length d ps fs) (hs : Short ps) (hz : Zw w) (hc : namedF ps fs [a, b] = r) :
    Calls Tryd.prog 13 #[.agg #[.slice A ps.length c, .slice F fs.length d], .string a, .string b] w fun e w' => e = .returned (.bool true) ∧ Below w.heap.size w w' := by
  have hb0 := below_alloc' w (.cells #[.slice A ps.length c, .slice F fs.length d] 25)
  have y0 := Cel.new w 25 #[.slice A ps.length c, .slice F fs.length d]
  obtain ⟨W, hW⟩ : ∃ W, w.alloc (.cells #[.slice A ps.length c, .slice F fs.length d] 25) = W := ⟨_, rfl⟩
  rw [hW] at hb0 y0
  have HB0 := Lib.hid hb0
  have HY := Lib.hid y0
  have HWk := Lib.hid (fun w' hb => works_any w' (hz.below hb))
  have HS1 := Lib.hid (fun w' (hw : Below w.heap.size w w') => same_any A ps.length c F fs.length d ps fs a b w' (h.below hw) hs)
  have HS2 := Lib.hid (fun w' (hw : Below w.heap.size w w') => same_any A ps.length c F fs.length d ps fs b a w' (h.below hw) hs)
  have z0 := y0.cell 0 _ rfl
  have z1 := y0.cell 1 _ rfl
  rw [show sameV ps fs a b = (false, r) by rw [← hc]; exact if_pos (by omega)] at HS1
  rw [show sameV ps fs b a = (false, r) by rw [← hc, ← namedF_turn]; exact if_pos (by rw [namedF_turn]; omega)] at HS2
  clear h hs hz hb0 y0 hc
  rcases hr with rfl | rfl | rfl
  all_goals
    go_enter Tryd.func13, Tryd.ntmps13
    go_wp2_with fail
    refine (HS1.out _ HB0.out).mono ?_
    rintro e w1 ⟨rfl, hb1⟩
    clear z0 z1
    have HB1 := Lib.hid (HB0.out.trans (hb1.mono HB0.out.size))
    replace HY := Lib.hid (HY.out.below HY.out.lt hb1)
    have z0 := HY.out.cell 0 _ rfl
    have z1 := HY.out.cell 1 _ rfl
    clear hb1
    go_wp2_with fail
    clear z0 z1
    refine (HS2.out _ HB1.out).mono ?_
    rintro e w2 ⟨rfl, hb2⟩
    have HB2 := Lib.hid (HB1.out.trans (hb2.mono HB1.out.size))
    replace HY := Lib.hid (HY.out.below HY.out.lt hb2)
    have z0 := HY.out.cell 0 _ rfl
    have z1 := HY.out.cell 1 _ rfl
    clear hb2
    go_wp2_with fail
    refine (HWk.out _ HB2.out).mono ?_
    rintro e wz ⟨rfl, hbz⟩
    have HBz := Lib.hid (HB2.out.trans (hbz.mono HB2.out.size))
    clear hbz
    go_wp2
    go_ret
    exact ⟨rfl, HBz.out⟩
set_option maxRecDepth 100000 in
set_option maxHeartbeats 8000000 in
theorem mergeKeeps_same (A : Option Addr) (c : Nat) (F : Option Addr) (d : Nat) (ps : List ByteArray) (fs : List Fa) (a b : ByteArray) (w : World) (h : NetC w A ps.length c F fs.length d ps fs) (hs : Short ps) (hz : Zw w) (hc : namedF ps fs [a, b] = 0) (hk : checkF ps fs = 0) (hab : a = b) :
    Calls Tryd.prog 13 #[.agg #[.slice A ps.length c, .slice F fs.length d], .string a, .string b] w fun e w' => e = .returned (.bool true) ∧ Below w.heap.size w w' := by
  have hb0 := below_alloc' w (.cells #[.slice A ps.length c, .slice F fs.length d] 25)
  have y0 := Cel.new w 25 #[.slice A ps.length c, .slice F fs.length d]
  obtain ⟨W, hW⟩ : ∃ W, w.alloc (.cells #[.slice A ps.length c, .slice F fs.length d] 25) = W := ⟨_, rfl⟩
  rw [hW] at hb0 y0
  have HB0 := Lib.hid hb0
  have HY := Lib.hid y0
  have HWk := Lib.hid (fun w' hb => works_any w' (hz.below hb))
  have HS1 := Lib.hid (fun w' (hw : Below w.heap.size w w') => same_any A ps.length c F fs.length d ps fs a b w' (h.below hw) hs)
  have HS2 := Lib.hid (fun w' (hw : Below w.heap.size w w') => same_any A ps.length c F fs.length d ps fs b a w' (h.below hw) hs)
  have z0 := y0.cell 0 _ rfl
  have z1 := y0.cell 1 _ rfl
  rw [show sameV ps fs a b = (true, 0) by unfold sameV; rw [hc, if_neg (fun q => q rfl), if_pos hab]] at HS1
  rw [show sameV ps fs b a = (true, 0) by unfold sameV; rw [namedF_turn, hc, if_neg (fun q => q rfl), if_pos hab.symm]] at HS2
  have HC := Lib.hid (fun w' (hw : Below w.heap.size w w') => consistent_any A ps.length c F fs.length d ps fs w' (h.below hw) hs)
  have HPa := Lib.hid (fun w' (hw : Below w.heap.size w w') => pParents_any A ps.length c F fs.length d ps fs a w' (h.below hw) hs)
  rw [hk] at HC
  rw [if_pos (named_one hc), named_one hc] at HPa
  have HMg := Lib.hid (fun w' (hw : Below w.heap.size w w') => merge_any A ps.length c F fs.length d ps fs a b w' (h.below hw) hs)
  rw [show mergeV ps fs a b = ([], [], 2) by unfold mergeV; rw [hc, if_neg (fun q => q rfl), if_pos hab]] at HMg
  have heq : (a.toList == b.toList) = true := by rw [hab]; simp
  have hne : (a.toList != b.toList) = false := by rw [bne, heq]; rfl
  clear h hs hz hb0 y0 hc hk hab
  generalize consF ps fs = cc at *
  go_enter Tryd.func13, Tryd.ntmps13
  go_wp2_with fail
  refine (HS1.out _ HB0.out).mono ?_
  rintro e w1 ⟨rfl, hb1⟩
  clear z0 z1
  have HB1 := Lib.hid (HB0.out.trans (hb1.mono HB0.out.size))
  replace HY := Lib.hid (HY.out.below HY.out.lt hb1)
  have z0 := HY.out.cell 0 _ rfl
  have z1 := HY.out.cell 1 _ rfl
  clear hb1
  go_wp2_with fail
  clear z0 z1
  refine (HS2.out _ HB1.out).mono ?_
  rintro e w2 ⟨rfl, hb2⟩
  have HB2 := Lib.hid (HB1.out.trans (hb2.mono HB1.out.size))
  replace HY := Lib.hid (HY.out.below HY.out.lt hb2)
  have z0 := HY.out.cell 0 _ rfl
  have z1 := HY.out.cell 1 _ rfl
  clear hb2
  go_wp2_with fail
  clear z0 z1
  refine (HC.out _ HB2.out).mono ?_
  rintro e w3 ⟨rfl, hb3⟩
  have HB3 := Lib.hid (HB2.out.trans (hb3.mono HB2.out.size))
  replace HY := Lib.hid (HY.out.below HY.out.lt hb3)
  have z0 := HY.out.cell 0 _ rfl
  have z1 := HY.out.cell 1 _ rfl
  clear hb3
  go_wp2_with fail
  clear z0 z1
  refine (HPa.out _ HB3.out).mono ?_
  rintro e w4 ⟨hb4, vp, rfl, hvp⟩
  have HVp := Lib.hid hvp
  have HB4 := Lib.hid (HB3.out.trans (hb4.mono HB3.out.size))
  replace HY := Lib.hid (HY.out.below HY.out.lt hb4)
  have z0 := HY.out.cell 0 _ rfl
  have z1 := HY.out.cell 1 _ rfl
  clear hb4
  clear hvp HS1 HS2 HC HPa
  go_wp2_with fail
  clear z0 z1
  refine (HMg.out _ HB4.out).mono ?_
  rintro e w5 ⟨hb5, A5, n5, c5, F5, m5, d5, rfl, _⟩
  have HB5 := Lib.hid (HB4.out.trans (hb5.mono HB4.out.size))
  have HB6 := Lib.hid (HB5.out.alloc HB5.out.size (.cells #[.slice A5 n5 c5, .slice F5 m5 d5] 25))
  clear hb5
  go_wp2_with fail
  refine (HWk.out _ HB6.out).mono ?_
  rintro e wz ⟨rfl, hbz⟩
  have HBz := Lib.hid (HB6.out.trans (hbz.mono HB6.out.size))
  clear hbz
  go_wp2
  go_ret
  exact ⟨rfl, HBz.out⟩
set_option maxRecDepth 100000 in
set_option maxHeartbeats 8000000 in
theorem mergeKeeps_contrary (A : Option Addr) (c : Nat) (F : Option Addr) (d : Nat) (ps : List ByteArray) (fs : List Fa) (a b : ByteArray) (w : World) (h : NetC w A ps.length c F fs.length d ps fs) (hs : Short ps) (hz : Zw w) (hc : namedF ps fs [a, b] = 0) (hk : checkF ps fs = 0) (hab : a ≠ b) (hm : mergeF a b fs = none) :
    Calls Tryd.prog 13 #[.agg #[.slice A ps.length c, .slice F fs.length d], .string a, .string b] w fun e w' => e = .returned (.bool true) ∧ Below w.heap.size w w' := by
  have hb0 := below_alloc' w (.cells #[.slice A ps.length c, .slice F fs.length d] 25)
  have y0 := Cel.new w 25 #[.slice A ps.length c, .slice F fs.length d]
  obtain ⟨W, hW⟩ : ∃ W, w.alloc (.cells #[.slice A ps.length c, .slice F fs.length d] 25) = W := ⟨_, rfl⟩
  rw [hW] at hb0 y0
  have HB0 := Lib.hid hb0
  have HY := Lib.hid y0
  have HWk := Lib.hid (fun w' hb => works_any w' (hz.below hb))
  have HS1 := Lib.hid (fun w' (hw : Below w.heap.size w w') => same_any A ps.length c F fs.length d ps fs a b w' (h.below hw) hs)
  have HS2 := Lib.hid (fun w' (hw : Below w.heap.size w w') => same_any A ps.length c F fs.length d ps fs b a w' (h.below hw) hs)
  have z0 := y0.cell 0 _ rfl
  have z1 := y0.cell 1 _ rfl
  rw [show sameV ps fs a b = (false, 0) by unfold sameV; rw [hc, if_neg (fun q => q rfl), if_neg hab, hm]] at HS1
  rw [show sameV ps fs b a = (false, 0) by unfold sameV; rw [namedF_turn, hc, if_neg (fun q => q rfl), if_neg (Ne.symm hab), merge_none_turn hm]] at HS2
  have HC := Lib.hid (fun w' (hw : Below w.heap.size w w') => consistent_any A ps.length c F fs.length d ps fs w' (h.below hw) hs)
  have HPa := Lib.hid (fun w' (hw : Below w.heap.size w w') => pParents_any A ps.length c F fs.length d ps fs a w' (h.below hw) hs)
  rw [hk] at HC
  rw [if_pos (named_one hc), named_one hc] at HPa
  have HMg := Lib.hid (fun w' (hw : Below w.heap.size w w') => merge_any A ps.length c F fs.length d ps fs a b w' (h.below hw) hs)
  rw [show mergeV ps fs a b = ([], [], 101) by unfold mergeV; rw [hc, if_neg (fun q => q rfl), if_neg hab, hm]] at HMg
  have heq : (a.toList == b.toList) = false := by rw [beqL]; exact decide_eq_false hab
  have hne : (a.toList != b.toList) = true := by rw [bne, heq]; rfl
  clear h hs hz hb0 y0 hc hk hab hm
  generalize consF ps fs = cc at *
  go_enter Tryd.func13, Tryd.ntmps13
  go_wp2_with fail
  refine (HS1.out _ HB0.out).mono ?_
  rintro e w1 ⟨rfl, hb1⟩
  clear z0 z1
  have HB1 := Lib.hid (HB0.out.trans (hb1.mono HB0.out.size))
  replace HY := Lib.hid (HY.out.below HY.out.lt hb1)
  have z0 := HY.out.cell 0 _ rfl
  have z1 := HY.out.cell 1 _ rfl
  clear hb1
  go_wp2_with fail
  clear z0 z1
  refine (HS2.out _ HB1.out).mono ?_
  rintro e w2 ⟨rfl, hb2⟩
  have HB2 := Lib.hid (HB1.out.trans (hb2.mono HB1.out.size))
  replace HY := Lib.hid (HY.out.below HY.out.lt hb2)
  have z0 := HY.out.cell 0 _ rfl
  have z1 := HY.out.cell 1 _ rfl
  clear hb2
  go_wp2_with fail
  clear z0 z1
  refine (HC.out _ HB2.out).mono ?_
  rintro e w3 ⟨rfl, hb3⟩
  have HB3 := Lib.hid (HB2.out.trans (hb3.mono HB2.out.size))
  replace HY := Lib.hid (HY.out.below HY.out.lt hb3)
  have z0 := HY.out.cell 0 _ rfl
  have z1 := HY.out.cell 1 _ rfl
  clear hb3
  go_wp2_with fail
  clear z0 z1
  refine (HPa.out _ HB3.out).mono ?_
  rintro e w4 ⟨hb4, vp, rfl, hvp⟩
  have HVp := Lib.hid hvp
  have HB4 := Lib.hid (HB3.out.trans (hb4.mono HB3.out.size))
  replace HY := Lib.hid (HY.out.below HY.out.lt hb4)
  have z0 := HY.out.cell 0 _ rfl
  have z1 := HY.out.cell 1 _ rfl
  clear hb4
  clear hvp HS1 HS2 HC HPa
  go_wp2_with fail
  clear z0 z1
  refine (HMg.out _ HB4.out).mono ?_
  rintro e w5 ⟨hb5, A5, n5, c5, F5, m5, d5, rfl, _⟩
  have HB5 := Lib.hid (HB4.out.trans (hb5.mono HB4.out.size))
  have HB6 := Lib.hid (HB5.out.alloc HB5.out.size (.cells #[.slice A5 n5 c5, .slice F5 m5 d5] 25))
  clear hb5
  go_wp2_with fail
  refine (HWk.out _ HB6.out).mono ?_
  rintro e wz ⟨rfl, hbz⟩
  have HBz := Lib.hid (HB6.out.trans (hbz.mono HB6.out.size))
  clear hbz
  go_wp2
  go_ret
  exact ⟨rfl, HBz.out⟩
set_option maxRecDepth 100000 in
set_option maxHeartbeats 8000000 in
theorem mergeKeeps_good (A : Option Addr) (c : Nat) (F : Option Addr) (d : Nat) (ps : List ByteArray) (fs : List Fa) (a b : ByteArray) (w : World) (h : NetC w A ps.length c F fs.length d ps fs) (hs : Short ps) (hz : Zw w) (hc : namedF ps fs [a, b] = 0) (hk : checkF ps fs = 0) (hp : ps.length ≤ 24) (hno : namesOk ps = true) (hab : a ≠ b) (ha : a ∈ ps) (hb : b ∈ ps) (gs : List Fa) (hm : mergeF a b fs = some gs) :
    Calls Tryd.prog 13 #[.agg #[.slice A ps.length c, .slice F fs.length d], .string a, .string b] w fun e w' => e = .returned (.bool true) ∧ Below w.heap.size w w' := by
  have hb0 := below_alloc' w (.cells #[.slice A ps.length c, .slice F fs.length d] 25)
  have y0 := Cel.new w 25 #[.slice A ps.length c, .slice F fs.length d]
  obtain ⟨W, hW⟩ : ∃ W, w.alloc (.cells #[.slice A ps.length c, .slice F fs.length d] 25) = W := ⟨_, rfl⟩
  rw [hW] at hb0 y0
  have HB0 := Lib.hid hb0
  have HY := Lib.hid y0
  have HWk := Lib.hid (fun w' hb => works_any w' (hz.below hb))
  have HS1 := Lib.hid (fun w' (hw : Below w.heap.size w w') => same_any A ps.length c F fs.length d ps fs a b w' (h.below hw) hs)
  have HS2 := Lib.hid (fun w' (hw : Below w.heap.size w w') => same_any A ps.length c F fs.length d ps fs b a w' (h.below hw) hs)
  have z0 := y0.cell 0 _ rfl
  have z1 := y0.cell 1 _ rfl
  have hst := same_turn hk hc hab ha hb
  rw [hst.1] at HS2
  have hs1 : sameV ps fs a b = ((solveF (mergeP b ps) gs).isSome, 0) := by
    unfold sameV
    rw [hc, if_neg (fun q => q rfl), if_neg hab, hm]
    simp only
    rw [merge_check hk hab ha hb hm, consF_merged hk hab ha hb hm]
  rw [hs1] at HS1 HS2
  have HC := Lib.hid (fun w' (hw : Below w.heap.size w w') => consistent_any A ps.length c F fs.length d ps fs w' (h.below hw) hs)
  have HPa := Lib.hid (fun w' (hw : Below w.heap.size w w') => pParents_any A ps.length c F fs.length d ps fs a w' (h.below hw) hs)
  rw [hk] at HC
  rw [if_pos (named_one hc), named_one hc] at HPa
  have HMg := Lib.hid (fun w' (hw : Below w.heap.size w w') => merge_any A ps.length c F fs.length d ps fs a b w' (h.below hw) hs)
  rw [show mergeV ps fs a b = (mergeP b ps, gs, 0) by unfold mergeV; rw [hc, if_neg (fun q => q rfl), if_neg hab, hm]] at HMg
  have HCt := Lib.hid (fun q => merged_cons hk hab ha hb hm q)
  have HNp := Lib.hid (show atF (parentsF fs a) b = -1 from atF_none (fun q => by rw [parent_merge q] at hm; cases hm))
  have HMc := Lib.hid (merge_check hk hab ha hb hm)
  have HSh := Lib.hid (short_merge (b := b) hs)
  have HAm := Lib.hid (atF_mem (mergeP_mem.2 ⟨ha, hab⟩ : a ∈ mergeP b ps))
  have HBm := Lib.hid (atF_none (memP_no b ps))
  have HLn := Lib.hid (mergeP_length (namesOk_nodup hno) hb)
  have HGl := Lib.hid (mergeF_length hm)
  have HP := Lib.hid hp
  have HPt := Lib.hid (fun v w' h' => rAt_any v (parentsF fs a) b w' h')
  rw [HNp.out] at HPt
  have heq : (a.toList == b.toList) = false := by rw [beqL]; exact decide_eq_false hab
  have hne : (a.toList != b.toList) = true := by rw [bne, heq]; rfl
  clear h hs hz hb0 y0 hc hk hab hm ha hb hp hno hst hs1
  generalize (solveF (mergeP b ps) gs).isSome = x at *
  generalize consF ps fs = cc at *
  generalize posF (mergeP b ps) a = pa at *
  go_enter Tryd.func13, Tryd.ntmps13
  go_wp2_with fail
  refine (HS1.out _ HB0.out).mono ?_
  rintro e w1 ⟨rfl, hb1⟩
  clear z0 z1
  have HB1 := Lib.hid (HB0.out.trans (hb1.mono HB0.out.size))
  replace HY := Lib.hid (HY.out.below HY.out.lt hb1)
  have z0 := HY.out.cell 0 _ rfl
  have z1 := HY.out.cell 1 _ rfl
  clear hb1
  go_wp2_with fail
  clear z0 z1
  refine (HS2.out _ HB1.out).mono ?_
  rintro e w2 ⟨rfl, hb2⟩
  have HB2 := Lib.hid (HB1.out.trans (hb2.mono HB1.out.size))
  replace HY := Lib.hid (HY.out.below HY.out.lt hb2)
  have z0 := HY.out.cell 0 _ rfl
  have z1 := HY.out.cell 1 _ rfl
  clear hb2
  go_wp2_with fail
  clear z0 z1
  refine (HC.out _ HB2.out).mono ?_
  rintro e w3 ⟨rfl, hb3⟩
  have HB3 := Lib.hid (HB2.out.trans (hb3.mono HB2.out.size))
  replace HY := Lib.hid (HY.out.below HY.out.lt hb3)
  have z0 := HY.out.cell 0 _ rfl
  have z1 := HY.out.cell 1 _ rfl
  clear hb3
  go_wp2_with fail
  clear z0 z1
  refine (HPa.out _ HB3.out).mono ?_
  rintro e w4 ⟨hb4, vp, rfl, hvp⟩
  have HVp := Lib.hid hvp
  have HB4 := Lib.hid (HB3.out.trans (hb4.mono HB3.out.size))
  replace HY := Lib.hid (HY.out.below HY.out.lt hb4)
  have z0 := HY.out.cell 0 _ rfl
  have z1 := HY.out.cell 1 _ rfl
  clear hb4
  clear hvp HS1 HS2 HC HPa
  cases x with
  | false =>
    go_wp2_with fail
    clear z0 z1
    refine (HMg.out _ HB4.out).mono ?_
    rintro e w5 ⟨hb5, A5, n5, c5, F5, m5, d5, rfl, hn5⟩
    obtain ⟨rfl, rfl, _⟩ := NetC.many hn5
    have HB5 := Lib.hid (HB4.out.trans (hb5.mono HB4.out.size))
    have HB6 := Lib.hid (HB5.out.alloc HB5.out.size (.cells #[.slice A5 (mergeP b ps).length c5, .slice F5 gs.length d5] 25))
    have HX := Lib.hid (Cel.new w5 25 #[.slice A5 (mergeP b ps).length c5, .slice F5 gs.length d5])
    have HY5 := Lib.hid ((HY.out.below HY.out.lt hb5).alloc (.cells #[.slice A5 (mergeP b ps).length c5, .slice F5 gs.length d5] 25))
    have HN6 := Lib.hid (NetC.below hn5 (below_alloc' w5 (.cells #[.slice A5 (mergeP b ps).length c5, .slice F5 gs.length d5] 25)))
    have HCk := Lib.hid (check_is HMc.out _ HN6.out HSh.out)
    clear hb5 hn5
    go_wp2_with fail
    refine HCk.out.mono ?_
    rintro e w7 ⟨rfl, hb7⟩
    have HB7 := Lib.hid (HB6.out.trans (hb7.mono HB6.out.size))
    have HX7 := Lib.hid (HX.out.below HX.out.lt hb7)
    have HY7 := Lib.hid (HY5.out.below HY5.out.lt hb7)
    have HN7 := Lib.hid (HN6.out.below hb7)
    have x0 := HX7.out.cell 0 _ rfl
    have x1 := HX7.out.cell 1 _ rfl
    have z0 := HY7.out.cell 0 _ rfl
    have z1 := HY7.out.cell 1 _ rfl
    have HAa := Lib.hid (rAt_any (.slice A5 (mergeP b ps).length c5) (mergeP b ps) a w7 HN7.out.people)
    have HAb := Lib.hid (rAt_any (.slice A5 (mergeP b ps).length c5) (mergeP b ps) b w7 HN7.out.people)
    rw [HAm.out] at HAa
    rw [HBm.out] at HAb
    clear hb7 HX HY5 HN6
    have e1 : IntKind.i64.wrap ((ps.length : Int) - 1) = ((mergeP b ps).length : Int) := by
      rw [show (ps.length : Int) - 1 = ((mergeP b ps).length : Int) by have := HLn.out; omega]
      exact IntWalk.i64_in _ (by have := HP.out; have := HLn.out; omega)
    have e2 : gs.length ≤ fs.length := HGl.out
    go_wp2_with fail
    refine HAa.out.mono ?_
    rintro e w' ⟨rfl, rfl⟩
    go_wp2_with fail
    refine HAb.out.mono ?_
    rintro e w' ⟨rfl, rfl⟩
    go_wp2_with fail
    refine (HWk.out _ HB7.out).mono ?_
    rintro e wz ⟨rfl, hbz⟩
    have HBz := Lib.hid (HB7.out.trans (hbz.mono HB7.out.size))
    clear hbz
    go_wp2
    go_ret
    exact ⟨rfl, HBz.out⟩
  | true =>
    obtain rfl : cc = true := HCt.out (by trivial)
    go_wp2_with fail
    refine (HPt.out _ _ HVp.out).mono ?_
    rintro e w' ⟨rfl, rfl⟩
    go_wp2_with fail
    clear z0 z1
    refine (HMg.out _ HB4.out).mono ?_
    rintro e w5 ⟨hb5, A5, n5, c5, F5, m5, d5, rfl, hn5⟩
    obtain ⟨rfl, rfl, _⟩ := NetC.many hn5
    have HB5 := Lib.hid (HB4.out.trans (hb5.mono HB4.out.size))
    have HB6 := Lib.hid (HB5.out.alloc HB5.out.size (.cells #[.slice A5 (mergeP b ps).length c5, .slice F5 gs.length d5] 25))
    have HX := Lib.hid (Cel.new w5 25 #[.slice A5 (mergeP b ps).length c5, .slice F5 gs.length d5])
    have HY5 := Lib.hid ((HY.out.below HY.out.lt hb5).alloc (.cells #[.slice A5 (mergeP b ps).length c5, .slice F5 gs.length d5] 25))
    have HN6 := Lib.hid (NetC.below hn5 (below_alloc' w5 (.cells #[.slice A5 (mergeP b ps).length c5, .slice F5 gs.length d5] 25)))
    have HCk := Lib.hid (check_is HMc.out _ HN6.out HSh.out)
    clear hb5 hn5
    go_wp2_with fail
    refine HCk.out.mono ?_
    rintro e w7 ⟨rfl, hb7⟩
    have HB7 := Lib.hid (HB6.out.trans (hb7.mono HB6.out.size))
    have HX7 := Lib.hid (HX.out.below HX.out.lt hb7)
    have HY7 := Lib.hid (HY5.out.below HY5.out.lt hb7)
    have HN7 := Lib.hid (HN6.out.below hb7)
    have x0 := HX7.out.cell 0 _ rfl
    have x1 := HX7.out.cell 1 _ rfl
    have z0 := HY7.out.cell 0 _ rfl
    have z1 := HY7.out.cell 1 _ rfl
    have HAa := Lib.hid (rAt_any (.slice A5 (mergeP b ps).length c5) (mergeP b ps) a w7 HN7.out.people)
    have HAb := Lib.hid (rAt_any (.slice A5 (mergeP b ps).length c5) (mergeP b ps) b w7 HN7.out.people)
    rw [HAm.out] at HAa
    rw [HBm.out] at HAb
    clear hb7 HX HY5 HN6
    have e1 : IntKind.i64.wrap ((ps.length : Int) - 1) = ((mergeP b ps).length : Int) := by
      rw [show (ps.length : Int) - 1 = ((mergeP b ps).length : Int) by have := HLn.out; omega]
      exact IntWalk.i64_in _ (by have := HP.out; have := HLn.out; omega)
    have e2 : gs.length ≤ fs.length := HGl.out
    go_wp2_with fail
    refine HAa.out.mono ?_
    rintro e w' ⟨rfl, rfl⟩
    go_wp2_with fail
    refine HAb.out.mono ?_
    rintro e w' ⟨rfl, rfl⟩
    go_wp2_with fail
    refine (HWk.out _ HB7.out).mono ?_
    rintro e wz ⟨rfl, hbz⟩
    have HBz := Lib.hid (HB7.out.trans (hbz.mono HB7.out.size))
    clear hbz
    go_wp2
    go_ret
    exact ⟨rfl, HBz.out⟩
theorem mergeKeeps_any (A : Option Addr) (n c : Nat) (F : Option Addr) (m d : Nat) (ps : List ByteArray) (fs : List Fa) (a b : ByteArray) (w : World) (h : NetC w A n c F m d ps fs) (hs : Short ps) (hz : Zw w) :
    Calls Tryd.prog 13 #[.agg #[.slice A n c, .slice F m d], .string a, .string b] w fun e w' => e = .returned (.bool true) ∧ Below w.heap.size w w' := by
  obtain ⟨e1, e2, _⟩ := h.many
  subst e1
  subst e2
  rcases namedF_cases ps fs [a, b] with hr | ⟨hc, hk, hp, _, _, hm⟩
  · exact mergeKeeps_bad _ hr A c F d ps fs a b w h hs hz rfl
  · by_cases hab : a = b
    · exact mergeKeeps_same A c F d ps fs a b w h hs hz hc hk hab
    · cases hq : mergeF a b fs with
      | none => exact mergeKeeps_contrary A c F d ps fs a b w h hs hz hc hk hab hq
      | some gs =>
        rcases checkF_cases ps fs with q | q | ⟨_, _, _, hno, _⟩
        · omega
        · omega
        · exact mergeKeeps_good A c F d ps fs a b w h hs hz hc hk hp hno hab (hm a (by simp)) (hm b (by simp)) gs hq
end Go.Proofs.YtdmcopjbckelmaaDoor
