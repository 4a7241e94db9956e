/- PeopleLivesSolve: the walk. Conditions: those stated. -/
import Derived.Test.YtdmcopjbckelmaaDoorZL3
import Derived.Test.YtdmcopjbckelmaaDoorZH
namespace Go.Proofs.YtdmcopjbckelmaaDoor
open Go Go.RowKit Go.Shelf
attribute [local go_sem] Oper.semAt_some

set_option maxRecDepth 100000 in
set_option maxHeartbeats 8000000 in
theorem livesSolve_bad (r : Int) (hr : r = 3 ∨ r = 100) (A : Option Addr) (n c : Nat) (F : Option Addr) (m d : Nat) (Ab : Option Addr) (nb cb : Nat) (Ad : Option Addr) (nd cd : Nat) (ps : List ByteArray) (fs : List Fa) (w : World) (h : NetC w A n c F m d ps fs) (hs : Short ps) (hz : Zw w) (hc : checkF ps fs = r) :
    Calls Tryd.prog 5 #[.agg #[.slice A n c, .slice F m d], .agg #[.slice Ab nb cb, .slice Ad nd cd]] w fun e w' => e = .returned (.bool true) ∧ Below w.heap.size w w' := by
  have hb0 := (below_alloc' w (.cells #[.slice A n c, .slice F m d] 25)).alloc (by simp) (.cells #[.slice Ab nb cb, .slice Ad nd cd] 45)
  have y0 := (Cel.new w 25 #[.slice A n c, .slice F m d]).alloc (.cells #[.slice Ab nb cb, .slice Ad nd cd] 45)
  have y1 := Cel.new (w.alloc (.cells #[.slice A n c, .slice F m d] 25)) 45 #[.slice Ab nb cb, .slice Ad nd cd]
  rw [World.size_alloc] at y1
  obtain ⟨W, hW⟩ : ∃ W, ((w.alloc (.cells #[.slice A n c, .slice F m d] 25)).alloc (.cells #[.slice Ab nb cb, .slice Ad nd cd] 45)) = W := ⟨_, rfl⟩
  rw [hW] at hb0 y0 y1
  have HB0 := Lib.hid hb0
  have HY0 := Lib.hid y0
  have HY1 := Lib.hid y1
  have HN := Lib.hid h
  have HS := Lib.hid hs
  have HZ := Lib.hid hz
  have HWk := Lib.hid (fun w' hb => works_any w' (hz.below hb))
  have z0 := y0.cell 0 _ rfl
  have z1 := y0.cell 1 _ rfl
  have HC := Lib.hid (consistent_any A n c F m d ps fs W (h.below hb0) hs)
  have hcf : consF ps fs = false := by
    unfold consF
    rw [hc, decide_eq_false (by omega)]
    rfl
  rw [hc, hcf] at HC
  have HL := Lib.hid (fun w' h' => lives_any A n c F m d ps fs w' h' hs)
  have hle : livE ps fs = r := by
    unfold livE
    rw [hc, if_pos (by omega)]
  have HLE := Lib.hid hle
  clear h hs hz hb0 y0 y1 hc hcf hle
  rcases hr with rfl | rfl
  all_goals
    go_enter Tryd.func5, Tryd.ntmps5
    go_wp2_with fail
    refine HC.out.mono ?_
    rintro e w1 ⟨rfl, hb1⟩
    clear z0 z1
    have HB1 := Lib.hid (HB0.out.trans (hb1.mono HB0.out.size))
    replace HY0 := Lib.hid (HY0.out.below HY0.out.lt hb1)
    replace HY1 := Lib.hid (HY1.out.below HY1.out.lt hb1)
    have z0 := HY0.out.cell 0 _ rfl
    have z1 := HY0.out.cell 1 _ rfl
    have x0 := HY1.out.cell 0 _ rfl
    have x1 := HY1.out.cell 1 _ rfl
    clear hb1 HB0
    go_wp2_with fail
    clear z0 z1 x0 x1
    refine (HL.out _ (HN.out.below HB1.out)).mono ?_
    rintro e w2 ⟨hb2, v, rfl, hv⟩
    rw [HLE.out]
    have HB2 := Lib.hid (HB1.out.trans (hb2.mono HB1.out.size))
    replace HY0 := Lib.hid (HY0.out.below HY0.out.lt hb2)
    replace HY1 := Lib.hid (HY1.out.below HY1.out.lt hb2)
    have z0 := HY0.out.cell 0 _ rfl
    have z1 := HY0.out.cell 1 _ rfl
    have x0 := HY1.out.cell 0 _ rfl
    have x1 := HY1.out.cell 1 _ rfl
    clear hb2 HB1
    clear hv
    go_wp2_with fail
    refine (HWk.out _ HB2.out).mono ?_
    rintro e w3 ⟨rfl, hb3⟩
    have HB3 := Lib.hid (HB2.out.trans (hb3.mono HB2.out.size))
    clear hb3
    go_wp2
    go_ret
    exact ⟨rfl, HB3.out⟩
set_option maxRecDepth 100000 in
set_option maxHeartbeats 8000000 in
theorem livesSolve_none (A : Option Addr) (n c : Nat) (F : Option Addr) (m d : Nat) (Ab : Option Addr) (nb cb : Nat) (Ad : Option Addr) (nd cd : Nat) (ps : List ByteArray) (fs : List Fa) (bs ds : List Int) (w : World) (h : NetC w A n c F m d ps fs) (hs : Short ps) (hb : Sl w 1 (.slice Ab nb cb) (bs.map (Value.int .i64))) (hd : Sl w 1 (.slice Ad nd cd) (ds.map (Value.int .i64))) (hz : Zw w) (hc : checkF ps fs = 0) (hp : ps.length ≤ 24) (hf : AllAbout ps fs) (hq : solveF ps fs = none) :
    Calls Tryd.prog 5 #[.agg #[.slice A n c, .slice F m d], .agg #[.slice Ab nb cb, .slice Ad nd cd]] w fun e w' => e = .returned (.bool true) ∧ Below w.heap.size w w' := by
  have hb0 := (below_alloc' w (.cells #[.slice A n c, .slice F m d] 25)).alloc (by simp) (.cells #[.slice Ab nb cb, .slice Ad nd cd] 45)
  have y0 := (Cel.new w 25 #[.slice A n c, .slice F m d]).alloc (.cells #[.slice Ab nb cb, .slice Ad nd cd] 45)
  have y1 := Cel.new (w.alloc (.cells #[.slice A n c, .slice F m d] 25)) 45 #[.slice Ab nb cb, .slice Ad nd cd]
  rw [World.size_alloc] at y1
  obtain ⟨W, hW⟩ : ∃ W, ((w.alloc (.cells #[.slice A n c, .slice F m d] 25)).alloc (.cells #[.slice Ab nb cb, .slice Ad nd cd] 45)) = W := ⟨_, rfl⟩
  rw [hW] at hb0 y0 y1
  have HB0 := Lib.hid hb0
  have HY0 := Lib.hid y0
  have HY1 := Lib.hid y1
  have HN := Lib.hid h
  have HS := Lib.hid hs
  have HZ := Lib.hid hz
  have HWk := Lib.hid (fun w' hb => works_any w' (hz.below hb))
  have z0 := y0.cell 0 _ rfl
  have z1 := y0.cell 1 _ rfl
  have HC := Lib.hid (consistent_any A n c F m d ps fs W (h.below hb0) hs)
  have hcf : consF ps fs = false := by
    unfold consF
    rw [hc, hq]
    rfl
  rw [hc, hcf] at HC
  have HL := Lib.hid (fun w' h' => lives_any A n c F m d ps fs w' h' hs)
  have hle : livE ps fs = 101 := by
    unfold livE
    rw [hc, if_neg (fun q => q rfl), hq]
    rfl
  have hll : livL ps fs = [] := by
    unfold livL
    rw [hc, if_neg (fun q => q rfl), hq]
  rw [hle, hll] at HL
  have HSo := Lib.hid (fun w' (hw : Below w.heap.size w w') => solves_any A n c F m d (.slice Ab nb cb) (.slice Ad nd cd) ps fs bs ds w' (h.below hw) hf hp (hb.below hw) (hd.below hw))
  rw [not_solves bs ds hp hf hq] at HSo
  clear h hs hb hd hz hb0 y0 y1 hc hcf hle hll hq hf hp
  go_enter Tryd.func5, Tryd.ntmps5
  go_wp2_with fail
  refine HC.out.mono ?_
  rintro e w1 ⟨rfl, hb1⟩
  clear z0 z1
  have HB1 := Lib.hid (HB0.out.trans (hb1.mono HB0.out.size))
  replace HY0 := Lib.hid (HY0.out.below HY0.out.lt hb1)
  replace HY1 := Lib.hid (HY1.out.below HY1.out.lt hb1)
  have z0 := HY0.out.cell 0 _ rfl
  have z1 := HY0.out.cell 1 _ rfl
  have x0 := HY1.out.cell 0 _ rfl
  have x1 := HY1.out.cell 1 _ rfl
  clear hb1 HB0
  go_wp2_with fail
  clear z0 z1 x0 x1
  refine (HL.out _ (HN.out.below HB1.out)).mono ?_
  rintro e w2 ⟨hb2, v, rfl, hv⟩
  obtain ⟨Av, nv, cv, rfl, hl0, _⟩ := hv
  obtain rfl : nv = 0 := by simp at hl0; omega
  have HB2 := Lib.hid (HB1.out.trans (hb2.mono HB1.out.size))
  replace HY0 := Lib.hid (HY0.out.below HY0.out.lt hb2)
  replace HY1 := Lib.hid (HY1.out.below HY1.out.lt hb2)
  have z0 := HY0.out.cell 0 _ rfl
  have z1 := HY0.out.cell 1 _ rfl
  have x0 := HY1.out.cell 0 _ rfl
  have x1 := HY1.out.cell 1 _ rfl
  clear hb2 HB1
  clear hl0
  go_wp2_with fail
  clear z0 z1 x0 x1
  refine (HSo.out _ HB2.out).mono ?_
  rintro e w3 ⟨rfl, hb3⟩
  have HB3 := Lib.hid (HB2.out.trans (hb3.mono HB2.out.size))
  clear hb3
  go_wp2_with fail
  refine (HWk.out _ HB3.out).mono ?_
  rintro e w4 ⟨rfl, hb4⟩
  have HB4 := Lib.hid (HB3.out.trans (hb4.mono HB3.out.size))
  clear hb4
  go_wp2
  go_ret
  exact ⟨rfl, HB4.out⟩
set_option maxRecDepth 100000 in
set_option maxHeartbeats 8000000 in
theorem livesSolve_good (A : Option Addr) (n c : Nat) (F : Option Addr) (m d : Nat) (Ab : Option Addr) (nb cb : Nat) (Ad : Option Addr) (nd cd : Nat) (ps : List ByteArray) (fs : List Fa) (bs ds : List Int) (w : World) (h : NetC w A n c F m d ps fs) (hs : Short ps) (hb : Sl w 1 (.slice Ab nb cb) (bs.map (Value.int .i64))) (hd : Sl w 1 (.slice Ad nd cd) (ds.map (Value.int .i64))) (hz : Zw w) (hc : checkF ps fs = 0) (hp : ps.length ≤ 24) (hf : AllAbout ps fs) (D : Mat) (hq : solveF ps fs = some D) :
    Calls Tryd.prog 5 #[.agg #[.slice A n c, .slice F m d], .agg #[.slice Ab nb cb, .slice Ad nd cd]] w fun e w' => e = .returned (.bool true) ∧ Below w.heap.size w w' := by
  have hb0 := (below_alloc' w (.cells #[.slice A n c, .slice F m d] 25)).alloc (by simp) (.cells #[.slice Ab nb cb, .slice Ad nd cd] 45)
  have y0 := (Cel.new w 25 #[.slice A n c, .slice F m d]).alloc (.cells #[.slice Ab nb cb, .slice Ad nd cd] 45)
  have y1 := Cel.new (w.alloc (.cells #[.slice A n c, .slice F m d] 25)) 45 #[.slice Ab nb cb, .slice Ad nd cd]
  rw [World.size_alloc] at y1
  obtain ⟨W, hW⟩ : ∃ W, ((w.alloc (.cells #[.slice A n c, .slice F m d] 25)).alloc (.cells #[.slice Ab nb cb, .slice Ad nd cd] 45)) = W := ⟨_, rfl⟩
  rw [hW] at hb0 y0 y1
  have HB0 := Lib.hid hb0
  have HY0 := Lib.hid y0
  have HY1 := Lib.hid y1
  have HN := Lib.hid h
  have HS := Lib.hid hs
  have HZ := Lib.hid hz
  have HWk := Lib.hid (fun w' hb => works_any w' (hz.below hb))
  have z0 := y0.cell 0 _ rfl
  have z1 := y0.cell 1 _ rfl
  have HC := Lib.hid (consistent_any A n c F m d ps fs W (h.below hb0) hs)
  have hcf : consF ps fs = true := by
    unfold consF
    rw [hc, hq]
    rfl
  rw [hc, hcf] at HC
  have HL := Lib.hid (fun w' h' => lives_any A n c F m d ps fs w' h' hs)
  have hle : livE ps fs = 0 := by
    unfold livE
    rw [hc, if_neg (fun q => q rfl), hq]
    rfl
  have hll : livL ps fs = livesV D ps.length := by
    unfold livL
    rw [hc, if_neg (fun q => q rfl), hq]
  rw [hle, hll] at HL
  have HSo := Lib.hid (fun w' (hw : Below w.heap.size w w') => solves_any A n c F m d (.slice Ab nb cb) (.slice Ad nd cd) ps fs bs ds w' (h.below hw) hf hp (hb.below hw) (hd.below hw))
  have HSv := Lib.hid (fun (va vb : Value) (bs' ds' : List Int) w' (hw : Below w.heap.size w w') (h1 : Sl w' 1 va (bs'.map (Value.int .i64))) (h2 : Sl w' 1 vb (ds'.map (Value.int .i64))) => solves_any A n c F m d va vb ps fs bs' ds' w' (h.below hw) hf hp h1 h2)
  have HFs := Lib.hid (show solvesB ps fs ((List.range ps.length).map fun i => -(D 48 (2 * i))) ((List.range ps.length).map fun i => -(D 48 (2 * i + 1))) = true from first_solves hp hf hq)
  have HLs := Lib.hid (show solvesB ps fs ((List.range ps.length).map fun i => D (2 * i) 48) ((List.range ps.length).map fun i => D (2 * i + 1) 48) = true from last_solves hp hf hq)
  have HBet := Lib.hid (fun (q : solvesB ps fs bs ds = true) i (hi : i < ps.length) => between hp hf hq q hi)
  have HLen := Lib.hid (fun (q : solvesB ps fs bs ds = true) => ((solvesB_iff hp).1 q).1)
  have HP := Lib.hid hp
  have HSb := Lib.hid hb
  have HSd := Lib.hid hd
  clear h hs hb hd hz hb0 y0 y1 hc hcf hle hll hq hf hp
  go_enter Tryd.func5, Tryd.ntmps5
  go_wp2_with fail
  refine HC.out.mono ?_
  rintro e w1 ⟨rfl, hb1⟩
  clear z0 z1
  have HB1 := Lib.hid (HB0.out.trans (hb1.mono HB0.out.size))
  replace HY0 := Lib.hid (HY0.out.below HY0.out.lt hb1)
  replace HY1 := Lib.hid (HY1.out.below HY1.out.lt hb1)
  have z0 := HY0.out.cell 0 _ rfl
  have z1 := HY0.out.cell 1 _ rfl
  have x0 := HY1.out.cell 0 _ rfl
  have x1 := HY1.out.cell 1 _ rfl
  clear hb1 HB0
  go_wp2_with fail
  clear z0 z1 x0 x1
  refine (HL.out _ (HN.out.below HB1.out)).mono ?_
  rintro e w2 ⟨hb2, v, rfl, hv⟩
  have HLv := Lib.hid hv
  have HB2 := Lib.hid (HB1.out.trans (hb2.mono HB1.out.size))
  replace HY0 := Lib.hid (HY0.out.below HY0.out.lt hb2)
  replace HY1 := Lib.hid (HY1.out.below HY1.out.lt hb2)
  have z0 := HY0.out.cell 0 _ rfl
  have z1 := HY0.out.cell 1 _ rfl
  have x0 := HY1.out.cell 0 _ rfl
  have x1 := HY1.out.cell 1 _ rfl
  clear hb2 HB1
  clear hv
  go_wp2_with fail
  clear z0 z1 x0 x1
  refine (HSo.out _ HB2.out).mono ?_
  rintro e w3 ⟨rfl, hb3⟩
  replace HLv := Lib.hid (HLv.out.below hb3)
  have HB3 := Lib.hid (HB2.out.trans (hb3.mono HB2.out.size))
  replace HY0 := Lib.hid (HY0.out.below HY0.out.lt hb3)
  replace HY1 := Lib.hid (HY1.out.below HY1.out.lt hb3)
  have z0 := HY0.out.cell 0 _ rfl
  have z1 := HY0.out.cell 1 _ rfl
  have x0 := HY1.out.cell 0 _ rfl
  have x1 := HY1.out.cell 1 _ rfl
  clear hb3 HB2
  have z0' := z0
  have z1' := z1
  clear z0 z1 x0 x1
  obtain ⟨Av, nv, cv, rfl, hl1, hl2, hl3, hl4⟩ := HLv.out.open2 (by decide)
  rw [livesV_length] at hl1
  obtain rfl : nv = ps.length := by omega
  have HLc := Lib.hid hl4
  clear hl1 hl4
  generalize hown : solvesB ps fs bs ds = own at *
  go_upto_region 8 with fail
  refine wp_region_held_drew (S := fun w' => Below w3.heap.size w3 w') (by kernel_rfl) (below_drew (Below.refl _ _)) (fun hHeld => ?_)
  refine wpAnyH_takeD (i := 0) (v := ?_) 48 rfl (by kernel_rfl) (by kernel_rfl) (by kernel_rfl) (fun _ _ _ h => h) (Or.inl ⟨by rfl, ?_⟩) (by assumption) rfl ?_
  rotate_left
  · intro w' hSw
    have z0 := below_cell hSw z0'; have z1 := below_cell hSw z1'
    go_simp <;> with_reducible rfl
  simp only [List.setIfInBounds_toArray, List.set_cons_succ, List.set_cons_zero]
  refine wpAnyH_takeD (i := 1) (v := ?_) 49 rfl (by kernel_rfl) (by kernel_rfl) (by kernel_rfl) (fun _ _ _ h => h) (Or.inl ⟨by rfl, ?_⟩) (by assumption) rfl ?_
  rotate_left
  · intro w' hSw
    have z0 := below_cell hSw z0'; have z1 := below_cell hSw z1'
    go_simp <;> with_reducible rfl
  simp only [List.setIfInBounds_toArray, List.set_cons_succ, List.set_cons_zero]
  refine wpAnyH_takeD (i := 2) (v := ?_) 50 rfl (by kernel_rfl) (by kernel_rfl) (by kernel_rfl) (fun _ _ _ h => h) (Or.inl ⟨by rfl, ?_⟩) (by assumption) rfl ?_
  rotate_left
  · intro w' hSw
    have z0 := below_cell hSw z0'; have z1 := below_cell hSw z1'
    go_simp <;> with_reducible rfl
  simp only [List.setIfInBounds_toArray, List.set_cons_succ, List.set_cons_zero]
  refine wpAnyH_takeD (i := 3) (v := ?_) 51 rfl (by kernel_rfl) (by kernel_rfl) (by kernel_rfl) (fun _ _ _ h => h) (Or.inl ⟨by rfl, ?_⟩) (by assumption) rfl ?_
  rotate_left
  · intro w' hSw
    have z0 := below_cell hSw z0'; have z1 := below_cell hSw z1'
    go_simp <;> with_reducible rfl
  simp only [List.setIfInBounds_toArray, List.set_cons_succ, List.set_cons_zero]
  refine wpAnyH_takeD (i := 4) (v := ?_) 52 rfl (by kernel_rfl) (by kernel_rfl) (by kernel_rfl) (fun _ _ _ h => h) (Or.inl ⟨by rfl, ?_⟩) (by assumption) rfl ?_
  rotate_left
  · intro w' hSw
    have z0 := below_cell hSw z0'; have z1 := below_cell hSw z1'
    go_simp <;> with_reducible rfl
  simp only [List.setIfInBounds_toArray, List.set_cons_succ, List.set_cons_zero]
  refine wpAnyH_ready (rs := [5]) (by kernel_rfl) (by simp) ?_
  refine AllReadyH.cons (o := _) rfl (fun K hK => ?_) AllReadyH.nil
  go_simp
  go_at_call 28
  refine (first_any _ D _ _ (HLv.out.below hHeld) HP.out).mono ?_
  rintro e w4 ⟨va, vb, rfl, hsa, hsb, hb4⟩
  have HG4 := Lib.hid (hHeld.trans (hb4.mono hHeld.size))
  have HFi := Lib.hid (HSv.out _ _ _ _ w4 (HB3.out.trans (HG4.out.mono HB3.out.size)) hsa hsb)
  rw [HFs.out] at HFi
  clear hb4 hsa hsb
  refine hK.out _ _ HG4.out (fun hHeld4 => ?_)
  clear hK K
  refine wpAnyH_ready (rs := [6]) (by kernel_rfl) (by simp) ?_
  refine AllReadyH.cons (o := _) rfl (fun K hK => ?_) AllReadyH.nil
  go_simp
  go_at_call 27
  refine HFi.out.mono ?_
  rintro e w5 ⟨rfl, hb5⟩
  have HG5 := Lib.hid (HG4.out.trans (hb5.mono HG4.out.size))
  clear hb5 HFi
  refine hK.out _ _ HG5.out (fun hHeld5 => ?_)
  clear hK K
  refine wpAnyH_takeD (i := 7) (v := ?_) 55 rfl (by kernel_rfl) (by kernel_rfl) (by kernel_rfl) (fun _ _ _ h => h) (Or.inl ⟨by rfl, ?_⟩) (by assumption) rfl ?_
  rotate_left
  · intro w' hSw
    have z0 := below_cell hSw z0'; have z1 := below_cell hSw z1'
    go_simp <;> with_reducible rfl
  simp only [List.setIfInBounds_toArray, List.set_cons_succ, List.set_cons_zero]
  refine wpAnyH_takeD (i := 8) (v := ?_) 56 rfl (by kernel_rfl) (by kernel_rfl) (by kernel_rfl) (fun _ _ _ h => h) (Or.inl ⟨by rfl, ?_⟩) (by assumption) rfl ?_
  rotate_left
  · intro w' hSw
    have z0 := below_cell hSw z0'; have z1 := below_cell hSw z1'
    go_simp <;> with_reducible rfl
  simp only [List.setIfInBounds_toArray, List.set_cons_succ, List.set_cons_zero]
  refine wpAnyH_takeD (i := 9) (v := ?_) 57 rfl (by kernel_rfl) (by kernel_rfl) (by kernel_rfl) (fun _ _ _ h => h) (Or.inl ⟨by rfl, ?_⟩) (by assumption) rfl ?_
  rotate_left
  · intro w' hSw
    have z0 := below_cell hSw z0'; have z1 := below_cell hSw z1'
    go_simp <;> with_reducible rfl
  simp only [List.setIfInBounds_toArray, List.set_cons_succ, List.set_cons_zero]
  refine wpAnyH_takeD (i := 10) (v := ?_) 58 rfl (by kernel_rfl) (by kernel_rfl) (by kernel_rfl) (fun _ _ _ h => h) (Or.inl ⟨by rfl, ?_⟩) (by assumption) rfl ?_
  rotate_left
  · intro w' hSw
    have z0 := below_cell hSw z0'; have z1 := below_cell hSw z1'
    go_simp <;> with_reducible rfl
  simp only [List.setIfInBounds_toArray, List.set_cons_succ, List.set_cons_zero]
  refine wpAnyH_takeD (i := 11) (v := ?_) 59 rfl (by kernel_rfl) (by kernel_rfl) (by kernel_rfl) (fun _ _ _ h => h) (Or.inl ⟨by rfl, ?_⟩) (by assumption) rfl ?_
  rotate_left
  · intro w' hSw
    have z0 := below_cell hSw z0'; have z1 := below_cell hSw z1'
    go_simp <;> with_reducible rfl
  simp only [List.setIfInBounds_toArray, List.set_cons_succ, List.set_cons_zero]
  refine wpAnyH_ready (rs := [12]) (by kernel_rfl) (by simp) ?_
  refine AllReadyH.cons (o := _) rfl (fun K hK => ?_) AllReadyH.nil
  go_simp
  go_at_call 29
  refine (last_any _ D _ _ (HLv.out.below HG5.out) HP.out).mono ?_
  rintro e w6 ⟨va2, vb2, rfl, hsa, hsb, hb6⟩
  have HG6 := Lib.hid (HG5.out.trans (hb6.mono HG5.out.size))
  have HLa := Lib.hid (HSv.out _ _ _ _ w6 (HB3.out.trans (HG6.out.mono HB3.out.size)) hsa hsb)
  rw [HLs.out] at HLa
  clear hb6 hsa hsb
  refine hK.out _ _ HG6.out (fun hHeld6 => ?_)
  clear hK K
  refine wpAnyH_ready (rs := [13]) (by kernel_rfl) (by simp) ?_
  refine AllReadyH.cons (o := _) rfl (fun K hK => ?_) AllReadyH.nil
  go_simp
  go_at_call 27
  refine HLa.out.mono ?_
  rintro e w7 ⟨rfl, hb7⟩
  have HG7 := Lib.hid (HG6.out.trans (hb7.mono HG6.out.size))
  clear hb7 HLa
  refine hK.out _ _ HG7.out (fun hHeld7 => ?_)
  clear hK K
  refine wpAnyH_takeD (i := 14) (v := ?_) 62 rfl (by kernel_rfl) (by kernel_rfl) (by kernel_rfl) (fun _ _ _ h => h) (Or.inl ⟨by rfl, ?_⟩) (by assumption) rfl ?_
  rotate_left
  · intro w' hSw
    have z0 := below_cell hSw z0'; have z1 := below_cell hSw z1'
    go_simp <;> with_reducible rfl
  simp only [List.setIfInBounds_toArray, List.set_cons_succ, List.set_cons_zero]
  refine wpAnyH_takeD (i := 15) (v := ?_) 63 rfl (by kernel_rfl) (by kernel_rfl) (by kernel_rfl) (fun _ _ _ h => h) (Or.inl ⟨by rfl, ?_⟩) (by assumption) rfl ?_
  rotate_left
  · intro w' hSw
    have z0 := below_cell hSw z0'; have z1 := below_cell hSw z1'
    go_simp <;> with_reducible rfl
  simp only [List.setIfInBounds_toArray, List.set_cons_succ, List.set_cons_zero]
  refine wpAnyH_done (by kernel_rfl) ?_ _
  have HB7 := Lib.hid (HB3.out.trans (HG7.out.mono HB3.out.size))
  replace HY0 := Lib.hid (HY0.out.below HY0.out.lt HG7.out)
  replace HY1 := Lib.hid (HY1.out.below HY1.out.lt HG7.out)
  clear z0' z1' hHeld hHeld4 hHeld5 hHeld6 hHeld7
  go_wp2
  cases own with
  | false =>
    go_loopw [10] (fun ti wr => ti = .int .i64 0 ∧ wr = w7) (fun _ _ => 0)
    case atStart => exact ⟨rfl, rfl⟩
    case round =>
      obtain ⟨rfl, rfl⟩ := hrel
      go_wp2_with fail
      refine (HWk.out _ HB7.out).mono ?_
      rintro e wz ⟨rfl, hbz⟩
      have HBz := Lib.hid (HB7.out.trans (hbz.mono HB7.out.size))
      clear hbz
      go_wp2
      go_ret
      exact ⟨rfl, HBz.out⟩
  | true =>
    have HLe := Lib.hid (HLen.out rfl)
    have HBe := Lib.hid (HBet.out rfl)
    obtain ⟨_, _, eb, _, _, hbc⟩ := ints_cell HSb.out
    cases eb
    obtain ⟨_, _, ed, _, _, hdc⟩ := ints_cell HSd.out
    cases ed
    have HBc := Lib.hid hbc
    have HDc := Lib.hid hdc
    clear hbc hdc HLen HBet
    go_loopw [10] (fun ti wr => ∃ i : Nat, ti = .int .i64 i ∧ i ≤ ps.length ∧ Hid (Below w7.heap.size w7 wr)) (fun ti _ => ps.length - (intOf ti).toNat)
    case atStart => exact ⟨0, rfl, by omega, Below.refl _ _⟩
    case round =>
      obtain ⟨i, rfl, hi, HW⟩ := hrel
      have HBr := Lib.hid (HB7.out.trans (HW.out.mono HB7.out.size))
      by_cases hlt : i < ps.length
      · have hi24 : i < 24 := by have := HP.out; omega
        have hib : i < bs.length := by have := HLe.out.1; omega
        have hid' : i < ds.length := by have := HLe.out.2; omega
        obtain ⟨ab, rfl, xb⟩ := HBc.out i hib
        obtain ⟨ad, rfl, xd⟩ := HDc.out i hid'
        obtain ⟨b9, o9, rfl, _, hce⟩ := HLc.out (by omega)
        have H37 := Lib.hid (show Below w3.heap.size w3 wr from HG7.out.trans (HW.out.mono HG7.out.size))
        replace xb := below_cell HBr.out xb
        replace xd := below_cell HBr.out xd
        have e0 := below_cell H37.out (hce _ _ (livesV_get hlt (t := 0) rfl))
        have e1 := below_cell H37.out (hce _ _ (livesV_get hlt (t := 1) rfl))
        have e2 := below_cell H37.out (hce _ _ (livesV_get hlt (t := 2) rfl))
        have e3 := below_cell H37.out (hce _ _ (livesV_get hlt (t := 3) rfl))
        rw [← Nat.add_assoc] at e0 e1 e2 e3
        rw [Nat.add_zero] at e0
        obtain ⟨k0, k1, k2, k3⟩ := HBe.out i hlt
        have hy1 := HY1.out.below HY1.out.lt HW.out
        have x0 := hy1.cell 0 _ rfl
        have x1 := hy1.cell 1 _ rfl
        generalize bs.getD i 0 = X at *
        generalize ds.getD i 0 = Z at *
        generalize -(D 48 (2 * i)) = l0 at *
        generalize D (2 * i) 48 = l1 at *
        generalize -(D 48 (2 * i + 1)) = l2 at *
        generalize D (2 * i + 1) 48 = l3 at *
        have c0 : decide (X < l0) = false := decide_eq_false (by omega)
        have c1 : decide (l1 < X) = false := decide_eq_false (by omega)
        have c2 : decide (Z < l2) = false := decide_eq_false (by omega)
        have c3 : decide (l3 < Z) = false := decide_eq_false (by omega)
        clear hy1 hce k0 k1 k2 k3
        go_wp2
        go_quiet (fail)
        go_wp2
        go_roundw
        case rel => exact ⟨i + 1, by go_num, by omega, below_drewN HW.out _⟩
        case measure => simp [intOf]; omega
      · go_wp2_with fail
        refine (HWk.out _ HBr.out).mono ?_
        rintro e wz ⟨rfl, hbz⟩
        have HBz := Lib.hid (HBr.out.trans (hbz.mono HBr.out.size))
        clear hbz
        go_wp2
        go_ret
        exact ⟨rfl, HBz.out⟩
theorem livesSolve_any (A : Option Addr) (n c : Nat) (F : Option Addr) (m d : Nat) (Ab : Option Addr) (nb cb : Nat) (Ad : Option Addr) (nd cd : Nat) (ps : List ByteArray) (fs : List Fa) (bs ds : List Int) (w : World) (h : NetC w A n c F m d ps fs) (hs : Short ps) (hb : Sl w 1 (.slice Ab nb cb) (bs.map (Value.int .i64))) (hd : Sl w 1 (.slice Ad nd cd) (ds.map (Value.int .i64))) (hz : Zw w) :
    Calls Tryd.prog 5 #[.agg #[.slice A n c, .slice F m d], .agg #[.slice Ab nb cb, .slice Ad nd cd]] w fun e w' => e = .returned (.bool true) ∧ Below w.heap.size w w' := by
  rcases checkF_cases ps fs with hc | hc | ⟨hc, hp, _, _, hf⟩
  · exact livesSolve_bad 3 (.inl rfl) A n c F m d Ab nb cb Ad nd cd ps fs w h hs hz hc
  · exact livesSolve_bad 100 (.inr rfl) A n c F m d Ab nb cb Ad nd cd ps fs w h hs hz hc
  · cases hq : solveF ps fs with
    | none => exact livesSolve_none A n c F m d Ab nb cb Ad nd cd ps fs bs ds w h hs hb hd hz hc hp hf hq
    | some D => exact livesSolve_good A n c F m d Ab nb cb Ad nd cd ps fs bs ds w h hs hb hd hz hc hp hf D hq
theorem livesSolve_all (A : Option Addr) (n c : Nat) (F : Option Addr) (m d : Nat) (vb vd : Value) (ps : List ByteArray) (fs : List Fa) (bs ds : List Int) (w : World) (h : NetC w A n c F m d ps fs) (hs : Short ps) (hb : Sl w 1 vb (bs.map (Value.int .i64))) (hd : Sl w 1 vd (ds.map (Value.int .i64))) (hz : Zw w) :
    Calls Tryd.prog 5 #[.agg #[.slice A n c, .slice F m d], .agg #[vb, vd]] w fun e w' => e = .returned (.bool true) ∧ Below w.heap.size w w' := by
  obtain ⟨Ab, nb, cb, rfl, _⟩ := id hb
  obtain ⟨Ad, nd, cd, rfl, _⟩ := id hd
  exact livesSolve_any A n c F m d Ab nb cb Ad nd cd ps fs bs ds w h hs hb hd hz
end Go.Proofs.YtdmcopjbckelmaaDoor
