/- Walks of the reference: CopyTexts, Copy, Same2. Conditions: those stated. -/
import Derived.Test.YtdmcopjbckelmaaGreatDoorZRB
import Derived.Test.YtdmcopjbckelmaaGreatDoorZV2
namespace Go.Proofs.YtdmcopjbckelmaaGreatDoor
open Go Go.RowKit Go.Shelf
attribute [local go_sem] Oper.semAt_some

theorem appStrB {ops : Array Oper} {rest : List Oper} {o : Oper} {a : Act} {Q : Exit → Act → World → Prop} {w : World} (s x : Operand) (hgd : o.guard = none) (ho : o.op = .call { callee := .builtin .append, args := #[s, x], argTypes := #[22, 22] })
    {base n : Nat} {v vx : Value} {xs news : List Value} (hs : a.eval s = v) (hx : a.eval x = vx) (hown : w.ownsRow base 9 1 v n xs) (hr : Sl w 1 vx news) (h1 : ∀ u ∈ news, u.oneCell' = true)
    {N : Nat} (hN : n * 1 + news.length = N * 1) (hb : N * 16 ≤ 140737488355328) (hbase : base ≤ w.heap.size)
    (h : ∀ A c w', Appended base 9 1 v xs news w w' A N c → wpList Tryz.prog ops Q rest (a.put o.dst (.slice A N c)) w') : wpList Tryz.prog ops Q (o :: rest) a w := by
  obtain ⟨i, hi, hz0, hz1, hz2⟩ := info_parts infoStr
  exact wpList_app w hgd s x 22 ho base 9 i (.string ⟨#[]⟩) 1 16 Tryz.underlying22 hi hz0 hz1 hz2 rfl (by decide) v n xs hs hown vx news hx hr h1 N hN hb (by decide) hbase h
set_option maxHeartbeats 1000000 in
theorem copyTexts_any (v : Value) (l : List ByteArray) (w : World) (h : Sl w 1 v (namesV l)) (hm : l.length * 16 ≤ 140737488355328) :
    Calls Tryz.prog 57 #[v] w fun e w' => ∃ v', e = .returned v' ∧ Below w.heap.size w w' ∧ w'.ownsRow w.heap.size 9 1 v' l.length (namesV l) := by
  have HS := Lib.hid h
  have HM := Lib.hid hm
  obtain ⟨A, n, c, rfl, _⟩ := h.shape
  clear h hm
  go_enter Tryz.func57, Tryz.ntmps57
  go_wp2_with (refine appStrB _ _ rfl rfl (by rfl) (by rfl) (World.ownsRow_nil _ w.heap.size _ _) HS.out (names_one l) (N := l.length) (by rw [namesV_length]; omega) (by have := HM.out; omega) (Nat.le_refl _) ?_; intro A5 c5 w5 hap)
  have hB := below_grown hap.grown (fun g e => by cases e)
  have hO := hap.own
  rw [List.nil_append] at hO
  have HB := Lib.hid hB
  have HO := Lib.hid hO
  clear hap hB hO
  go_wp2
  go_ret
  exact ⟨_, rfl, HB.out, HO.out⟩
/-- What a copy of a network is. -/
def CopyP (ps : List ByteArray) (fs : List Fa) (w : World) (e : Ending) (w' : World) : Prop :=
  Below w.heap.size w w' ∧ ∃ A c F d, e = .returned (.agg #[.slice A ps.length c, .slice F fs.length d]) ∧ NetC w' A ps.length c F fs.length d ps fs
theorem nm_plain {l : List ByteArray} {u : Value} (h : u ∈ namesV l) (A : Option Addr) (n c : Nat) : u ≠ .slice A n c := by
  unfold namesV at h
  obtain ⟨s, _, rfl⟩ := List.mem_map.1 h
  intro e
  cases e
theorem own_sl {w : World} {base s n : Nat} {e : TypeId} {v : Value} {xs : List Value} (h : w.ownsRow base e s v n xs) : ∃ A c, v = .slice A n c := by
  obtain ⟨A, c, rfl, _⟩ := own_shape h
  exact ⟨A, c, rfl⟩
set_option maxRecDepth 100000 in
set_option maxHeartbeats 4000000 in
theorem copy_any (A : Option Addr) (n c : Nat) (F : Option Addr) (m d : Nat) (ps : List ByteArray) (fs : List Fa) (w : World) (h : NetC w A n c F m d ps fs) (hp : ps.length * 16 ≤ 140737488355328) (hfs : fs.length * 48 ≤ 140737488355328) :
    Calls Tryz.prog 11 #[.agg #[.slice A n c, .slice F m d]] w (CopyP ps fs w) := by
  obtain ⟨e1, e2, h1, h2, h3, h4⟩ := h.many
  subst e1
  subst e2
  have hb0 := (below_alloc' w (.cells #[.slice A ps.length c, .slice F fs.length d] 25)).alloc (by simp) (.cells #[.slice none 0 0, .slice none 0 0] 25)
  have y0 := (Cel.new w 25 #[.slice A ps.length c, .slice F fs.length d]).alloc (.cells #[.slice none 0 0, .slice none 0 0] 25)
  have y1 := Cel.new (w.alloc (.cells #[.slice A ps.length c, .slice F fs.length d] 25)) 25 #[.slice none 0 0, .slice none 0 0]
  rw [World.size_alloc] at y1
  obtain ⟨W, hW⟩ : ∃ W, (w.alloc (.cells #[.slice A ps.length c, .slice F fs.length d] 25)).alloc (.cells #[.slice none 0 0, .slice none 0 0] 25) = W := ⟨_, rfl⟩
  rw [hW] at hb0 y0 y1
  have HBw := Lib.hid (below_drew hb0)
  have HR : Hid (Cel W.drew (w.heap.size + 1) 25 #[.slice none 0 0, .slice none 0 0]) := Lib.hid y1
  have HY : Hid (Cel W.drew w.heap.size 25 #[.slice A ps.length c, .slice F fs.length d]) := Lib.hid y0
  have HF : Hid (Sl W.drew 4 (.slice F fs.length d) (fasV fs)) := Lib.hid (h.facts.below hb0).drew
  have HFs := Lib.hid hfs
  have HC := Lib.hid (fun w' (hw : Below w.heap.size w w') => copyTexts_any (.slice A ps.length c) ps w' (h.people.below hw) hp)
  clear h hp hfs hb0 y0 y1
  go_enter Tryz.func11, Tryz.ntmps11
  go_upto_region 2 with fail
  clear hW
  refine wp_region_held_drew (S := fun w' => Cel w' w.heap.size 25 #[.slice A ps.length c, .slice F fs.length d]) (by kernel_rfl) HY.out (fun hHeld => ?_)
  generalize W.drew = V at *
  refine wpAnyH_takeD (i := 0) (v := ?_) 4 rfl (by kernel_rfl) (by kernel_rfl) (by kernel_rfl) (fun _ _ _ h => h) (Or.inl ⟨by rfl, ?_⟩) (by assumption) rfl ?_
  rotate_left
  · intro w' hSw
    have z0 := hSw.cell 0 _ rfl; have z1 := hSw.cell 1 _ rfl
    go_simp <;> with_reducible rfl
  simp only [List.setIfInBounds_toArray, List.set_cons_succ, List.set_cons_zero]
  refine wpAnyH_takeD (i := 1) (v := ?_) 5 rfl (by kernel_rfl) (by kernel_rfl) (by kernel_rfl) (fun _ _ _ h => h) (Or.inl ⟨by rfl, ?_⟩) (by assumption) rfl ?_
  rotate_left
  · intro w' hSw
    have z0 := hSw.cell 0 _ rfl; have z1 := hSw.cell 1 _ rfl
    go_simp <;> with_reducible rfl
  simp only [List.setIfInBounds_toArray, List.set_cons_succ, List.set_cons_zero]
  refine wpAnyH_takeD (i := 3) (v := ?_) 7 rfl (by kernel_rfl) (by kernel_rfl) (by kernel_rfl) (fun _ _ _ h => h) (Or.inl ⟨by rfl, ?_⟩) (by assumption) rfl ?_
  rotate_left
  · intro w' hSw
    have z0 := hSw.cell 0 _ rfl; have z1 := hSw.cell 1 _ rfl
    go_simp <;> with_reducible rfl
  simp only [List.setIfInBounds_toArray, List.set_cons_succ, List.set_cons_zero]
  refine wpAnyH_takeD (i := 4) (v := ?_) 8 rfl (by kernel_rfl) (by kernel_rfl) (by kernel_rfl) (fun _ _ _ h => h) (Or.inl ⟨by rfl, ?_⟩) (by assumption) rfl ?_
  rotate_left
  · intro w' hSw
    have z0 := hSw.cell 0 _ rfl; have z1 := hSw.cell 1 _ rfl
    go_simp <;> with_reducible rfl
  simp only [List.setIfInBounds_toArray, List.set_cons_succ, List.set_cons_zero]
  refine wpAnyH_takeD (i := 5) (v := ?_) 9 rfl (by kernel_rfl) (by kernel_rfl) (by kernel_rfl) (fun _ _ _ h => h) (Or.inl ⟨by rfl, ?_⟩) (by assumption) rfl ?_
  rotate_left
  · intro w' hSw
    have z0 := hSw.cell 0 _ rfl; have z1 := hSw.cell 1 _ rfl
    go_simp <;> with_reducible rfl
  simp only [List.setIfInBounds_toArray, List.set_cons_succ, List.set_cons_zero]
  refine wpAnyH_ready (rs := [2]) (by kernel_rfl) (by simp) ?_
  refine AllReadyH.cons (o := _) rfl (fun K hK => ?_) AllReadyH.nil
  go_simp
  go_at_call 57
  refine (HC.out _ HBw.out).mono ?_
  rintro e w6 ⟨v6, rfl, hb, ho⟩
  obtain ⟨A6, c6, rfl⟩ := own_sl ho
  have HBn := Lib.hid (below_then HBw.out hb)
  have HRn := Lib.hid (HR.out.below HR.out.lt hb)
  have HYn := Lib.hid (HY.out.below HY.out.lt hb)
  have HFn := Lib.hid (HF.out.below hb)
  have HPn := Lib.hid (Sl.of_own ho)
  refine hK.out _ _ HYn.out (fun hHeld2 => ?_)
  clear hb ho HR HY HF HBw
  clear hK K
  refine wpAnyH_ready (rs := [6]) (by kernel_rfl) (by simp) ?_
  refine AllReadyH.cons (o := _) rfl (fun K hK => ?_) AllReadyH.nil
  refine stepFactB (.tmp 7) (.tmp 9) rfl rfl (by rfl) (by rfl) (World.ownsRow_nil _ w.heap.size _ _) HFn.out fas_one (N := fs.length) (by rw [fasV_length]; omega) (by have := HFs.out; omega) HBn.out.size ?_
  intro A5 c5 w7 hap
  have hb := below_grown hap.grown (fun g e => by cases e)
  have HBm := Lib.hid (below_then HBn.out hb)
  have HRm := Lib.hid (HRn.out.below HRn.out.lt hb)
  have HYm := Lib.hid (HYn.out.below HYn.out.lt hb)
  have HEf := Lib.hid (show Sl w7 4 (.slice A5 fs.length c5) (fasV fs) from Sl.of_own (by have := hap.own; rwa [List.nil_append] at this))
  have HEp := Lib.hid (HPn.out.below hb)
  go_simp
  refine hK.out _ _ HYm.out (fun hHeld3 => ?_)
  clear hap hb HRn HYn HFn HPn HBn
  clear hK K
  refine wpAnyH_takeD (i := 7) (v := ?_) 11 rfl (by kernel_rfl) (by kernel_rfl) (by kernel_rfl) (fun _ _ _ h => h) (Or.inl ⟨by rfl, ?_⟩) (by assumption) rfl ?_
  rotate_left
  · intro w' hSw
    have z0 := hSw.cell 0 _ rfl; have z1 := hSw.cell 1 _ rfl
    go_simp <;> with_reducible rfl
  simp only [List.setIfInBounds_toArray, List.set_cons_succ, List.set_cons_zero]
  have q0 := HRm.out.frozen 0
  have q1 := HRm.out.frozen 1
  have q2 := HRm.out.cell 0 _ rfl
  have q3 := HRm.out.cell 1 _ rfl
  refine wpAnyH_ready (rs := [8]) (by kernel_rfl) (by simp) ?_
  refine AllReadyH.cons (o := _) rfl (fun K hK => ?_) AllReadyH.nil
  go_simp
  refine hK.out _ _ ((HYm.out.other (p := ⟨w.heap.size + 1, 0, none⟩) (by simp) (.slice A6 ps.length c6)).other (p := ⟨w.heap.size + 1, 1, none⟩) (by simp) (.slice A5 fs.length c5)) (fun hHeld4 => ?_)
  clear hK K
  refine wpAnyH_done (by kernel_rfl) ?_ _
  have HE := Lib.hid ((HBm.out.setCell (p := ⟨w.heap.size + 1, 0, none⟩) (by simp) (.slice A6 ps.length c6)).setCell (p := ⟨w.heap.size + 1, 1, none⟩) (by simp) (.slice A5 fs.length c5))
  have q4 := (HRm.out.setAt 0 (.slice A6 ps.length c6)).cell 1 (.slice none 0 0) rfl
  have HPz := Lib.hid ((HEp.out.setCell q2 (fun u hu => nm_plain hu _ _ _) (.slice A6 ps.length c6)).setCell q4 (fun u hu => nm_plain hu _ _ _) (.slice A5 fs.length c5))
  have HFz := Lib.hid ((HEf.out.setCell q2 (fun u hu => fas_plain hu _ _ _) (.slice A6 ps.length c6)).setCell q4 (fun u hu => fas_plain hu _ _ _) (.slice A5 fs.length c5))
  clear q4
  go_wp2
  have kk := HRm.out.set2 (.slice A6 ps.length c6) (.slice A5 fs.length c5)
  have k0 := kk.cell 0 _ rfl
  have k1 := kk.cell 1 _ rfl
  clear kk
  exact bodyPost_ret (v := .agg #[.slice A6 ps.length c6, .slice A5 fs.length c5]) (by simp [results, Tryz.results11, go_sem, k0, k1]) rfl ⟨HE.out, _, _, _, _, rfl, HPz.out, HFz.out⟩
set_option maxRecDepth 100000 in
set_option maxHeartbeats 4000000 in
theorem same2_any (A : Option Addr) (c : Nat) (F : Option Addr) (d : Nat) (A2 : Option Addr) (c2 : Nat) (F2 : Option Addr) (d2 : Nat) (ps : List ByteArray) (fs : List Fa) (w : World) (h : NetC w A ps.length c F fs.length d ps fs) (h2 : NetC w A2 ps.length c2 F2 fs.length d2 ps fs) :
    Calls Tryz.prog 14 #[.agg #[.slice A ps.length c, .slice F fs.length d], .agg #[.slice A2 ps.length c2, .slice F2 fs.length d2]] w fun e w' => e = .returned (.bool true) ∧ Below w.heap.size w w' := by
  obtain ⟨_, _, h1, h2', h3, h4⟩ := h.many
  obtain ⟨_, _, k1, k2, k3, k4⟩ := h2.many
  have hb0 := (below_alloc' w (.cells #[.slice A ps.length c, .slice F fs.length d] 25)).alloc (by simp) (.cells #[.slice A2 ps.length c2, .slice F2 fs.length d2] 25)
  have y0 := (Cel.new w 25 #[.slice A ps.length c, .slice F fs.length d]).alloc (.cells #[.slice A2 ps.length c2, .slice F2 fs.length d2] 25)
  have y1 := Cel.new (w.alloc (.cells #[.slice A ps.length c, .slice F fs.length d] 25)) 25 #[.slice A2 ps.length c2, .slice F2 fs.length d2]
  rw [World.size_alloc] at y1
  have HFc := Lib.hid (fun q => h.fact q)
  have HFc2 := Lib.hid (fun q => h2.fact q)
  have HE := Lib.hid (fun w' (hw : Below w.heap.size w w') => eqTexts_any (.slice A ps.length c) (.slice A2 ps.length c2) ps ps w' (h.people.below hw) (h2.people.below hw))
  rw [show decide (ps = ps) = true from decide_eq_true rfl] at HE
  have z0 := y0.cell 0 _ rfl
  have z1 := y0.cell 1 _ rfl
  have z2 := y1.cell 0 _ rfl
  have z3 := y1.cell 1 _ rfl
  have HB0 := Lib.hid hb0
  have HY0 := Lib.hid y0
  have HY1 := Lib.hid y1
  clear h h2 hb0 y0 y1
  go_enter Tryz.func14, Tryz.ntmps14
  go_wp2_with fail
  refine (HE.out _ HB0.out).mono ?_
  rintro e w1 ⟨rfl, hb1⟩
  have HB1 := Lib.hid (HB0.out.trans (hb1.mono HB0.out.size))
  replace HY0 := Lib.hid (HY0.out.below HY0.out.lt hb1)
  replace HY1 := Lib.hid (HY1.out.below HY1.out.lt hb1)
  clear hb1 z0 z1 z2 z3 HB0 HE
  have z0 := HY0.out.cell 0 _ rfl
  have z1 := HY0.out.cell 1 _ rfl
  have z2 := HY1.out.cell 0 _ rfl
  have z3 := HY1.out.cell 1 _ rfl
  go_wp2
  clear z0 z1 z2 z3
  go_loopw [5] (fun ti wr => ∃ k : Nat, ti = .int .i64 k ∧ k ≤ fs.length ∧ Hid (Cel wr w.heap.size 25 #[.slice A ps.length c, .slice F fs.length d]) ∧ Hid (Cel wr (w.heap.size + 1) 25 #[.slice A2 ps.length c2, .slice F2 fs.length d2]) ∧ Hid (Below w.heap.size w wr)) (fun ti _ => fs.length - (intOf ti).toNat)
  case atStart => exact ⟨0, rfl, by omega, HY0.out, HY1.out, HB1.out⟩
  case round =>
    clear HY0 HY1 HB1
    obtain ⟨k, rfl, hk, HY0, HY1, HB⟩ := hrel
    have z1 := HY0.out.cell 1 _ rfl
    have z3 := HY1.out.cell 1 _ rfl
    by_cases hlt : k < fs.length
    · have hki : (k : Int) < (fs.length : Int) := by omega
      have hk0 : (0 : Int) ≤ (k : Int) := by omega
      obtain ⟨b0, o0, rfl, _, hce⟩ := HFc.out (by omega)
      obtain ⟨b1, o1, rfl, _, hce2⟩ := HFc2.out (by omega)
      have hfj : fs[k]? = some fs[k] := List.getElem?_eq_getElem hlt
      obtain ⟨g1, g2, g3, g4⟩ := hce k _ hfj
      obtain ⟨e1, e2, e3, e4⟩ := hce2 k _ hfj
      replace g1 := below_cell HB.out g1
      replace g2 := below_cell HB.out g2
      replace g3 := below_cell HB.out g3
      replace g4 := below_cell HB.out g4
      replace e1 := below_cell HB.out e1
      replace e2 := below_cell HB.out e2
      replace e3 := below_cell HB.out e3
      replace e4 := below_cell HB.out e4
      clear hce hce2 hfj
      generalize fs[k] = f at *
      obtain ⟨fk, fa, fb, ft⟩ := f
      simp only at g1 g2 g3 g4 e1 e2 e3 e4
      go_upto_region 6 with fail
      go_quiet (fail)
      go_wp2
      go_roundw
      case rel => exact ⟨k + 1, by go_num, by omega, HY0.out, HY1.out, below_drewN HB.out _⟩
      case measure => simp [intOf]; omega
    · go_wp2
      go_ret
      exact ⟨rfl, HB.out⟩
end Go.Proofs.YtdmcopjbckelmaaGreatDoor
