/- Walks of the laws' own functions: solves. Conditions: those stated. Walks of the laws' own functions: first, last. Conditions: those stated. -/
import Derived.Test.YtdmcopjbckelmaaDoorZL2
import Derived.Test.YtdmcopjbckelmaaDoorZD
namespace Go.Proofs.YtdmcopjbckelmaaDoor
section
open Go Go.RowKit Go.Shelf
attribute [local go_sem] Oper.semAt_some

theorem solvesB_len {ps : List ByteArray} {fs : List Fa} {bs ds : List Int} (h : ¬ (bs.length = ps.length ∧ ds.length = ps.length)) : solvesB ps fs bs ds = false := by
  unfold solvesB
  rw [decide_eq_false h]
  rfl
theorem solvesB_year {ps : List ByteArray} {fs : List Fa} {bs ds : List Int} {i : Nat} (hi : i < ps.length) (h : yOk bs ds i = false) : solvesB ps fs bs ds = false := by
  unfold solvesB
  have : (List.range ps.length).all (yOk bs ds) = false := by
    rw [List.all_eq_false]
    exact ⟨i, List.mem_range.2 hi, by rw [h]; decide⟩
  rw [this, Bool.false_and, Bool.and_false]
theorem solvesB_fact {ps : List ByteArray} {fs : List Fa} {bs ds : List Int} {f : Fa} (hf : f ∈ fs) (h : meetsB ps bs ds f = false) : solvesB ps fs bs ds = false := by
  unfold solvesB
  have : fs.all (meetsB ps bs ds) = false := by
    rw [List.all_eq_false]
    exact ⟨f, hf, by rw [h]; decide⟩
  rw [this, Bool.and_false, Bool.and_false]
theorem solvesB_yes {ps : List ByteArray} {fs : List Fa} {bs ds : List Int} (h : bs.length = ps.length ∧ ds.length = ps.length) (h1 : ∀ j, j < ps.length → yOk bs ds j = true) (h2 : ∀ f ∈ fs, meetsB ps bs ds f = true) : solvesB ps fs bs ds = true := by
  unfold solvesB
  rw [decide_eq_true h, all_range.2 h1, List.all_eq_true.2 h2]
  rfl
theorem yOk_no {bs ds : List Int} {i : Nat} {X Z : Int} (hX : bs.getD i 0 = X) (hZ : ds.getD i 0 = Z) (h : ¬ (-4000 ≤ X ∧ X ≤ 4000 ∧ X ≤ Z ∧ Z ≤ X + 100)) : yOk bs ds i = false := by
  unfold yOk
  rw [hX, hZ]
  exact decide_eq_false h
theorem yOk_yes {bs ds : List Int} {i : Nat} {X Z : Int} (hX : bs.getD i 0 = X) (hZ : ds.getD i 0 = Z) (h : -4000 ≤ X ∧ X ≤ 4000 ∧ X ≤ Z ∧ Z ≤ X + 100) : yOk bs ds i = true := by
  unfold yOk
  rw [hX, hZ]
  exact decide_eq_true h
theorem year_next {bs ds : List Int} {i : Nat} (h : ∀ j, j < i → yOk bs ds j = true) (hk : yOk bs ds i = true) : ∀ j, j < i + 1 → yOk bs ds j = true := fun j hj => by
  rcases Nat.lt_succ_iff_lt_or_eq.1 hj with q | q
  · exact h j q
  · rw [q]; exact hk
set_option maxRecDepth 100000 in
set_option maxHeartbeats 8000000 in
theorem solves_any (A : Option Addr) (n c : Nat) (F : Option Addr) (m d : Nat) (vb vd : Value) (ps : List ByteArray) (fs : List Fa) (bs ds : List Int) (w : World) (h : NetC w A n c F m d ps fs) (hf : AllAbout ps fs) (hp : ps.length ≤ 24) (hb : Sl w 1 vb (bs.map (Value.int .i64))) (hd : Sl w 1 vd (ds.map (Value.int .i64))) :
    Calls Tryd.prog 27 #[.agg #[.slice A n c, .slice F m d], .agg #[vb, vd]] w fun e w' => e = .returned (.bool (solvesB ps fs bs ds)) ∧ Below w.heap.size w w' := by
  obtain ⟨e1, e2, h1, h2, h3, h4⟩ := h.many
  subst e1
  subst e2
  obtain ⟨Ab, cb, rfl, _, _, hbc⟩ := ints_cell hb
  obtain ⟨Ad, cd, rfl, _, _, hdc⟩ := ints_cell hd
  have HFc := Lib.hid (fun q => h.fact q)
  have HN := Lib.hid h
  have HSb := Lib.hid hb
  have HSd := Lib.hid hd
  have HA := Lib.hid hf
  have HP := Lib.hid hp
  have HBc := Lib.hid hbc
  have HDc := Lib.hid hdc
  have hb0 := (below_alloc' w (.cells #[.slice A ps.length c, .slice F fs.length d] 25)).alloc (by simp) (.cells #[.slice Ab bs.length cb, .slice Ad ds.length cd] 45)
  have y0 := (Cel.new w 25 #[.slice A ps.length c, .slice F fs.length d]).alloc (.cells #[.slice Ab bs.length cb, .slice Ad ds.length cd] 45)
  have y1 := Cel.new (w.alloc (.cells #[.slice A ps.length c, .slice F fs.length d] 25)) 45 #[.slice Ab bs.length cb, .slice Ad ds.length cd]
  rw [World.size_alloc] at y1
  obtain ⟨W, hW⟩ : ∃ W, ((w.alloc (.cells #[.slice A ps.length c, .slice F fs.length d] 25)).alloc (.cells #[.slice Ab bs.length cb, .slice Ad ds.length cd] 45)) = W := ⟨_, rfl⟩
  rw [hW] at hb0 y0 y1
  have HB0 := Lib.hid hb0
  have HY0 := Lib.hid y0
  have HY1 := Lib.hid y1
  have z0 := y0.cell 0 _ rfl
  have z1 := y0.cell 1 _ rfl
  have x0 := y1.cell 0 _ rfl
  have x1 := y1.cell 1 _ rfl
  clear h hb hd hf hp hbc hdc hb0 y0 y1 h1 h3
  have HR : ∀ r, solvesB ps fs bs ds = r → Hid (solvesB ps fs bs ds = r) := fun r h => Lib.hid h
  go_enter Tryd.func27, Tryd.ntmps27
  by_cases lb : bs.length = ps.length
  · have b1 : ((bs.length : Int) != (ps.length : Int)) = false := by rw [bne, beq_iff_eq.2 (show (bs.length : Int) = (ps.length : Int) by omega)]; rfl
    have HLb := Lib.hid lb
    clear lb
    by_cases ld : ds.length = ps.length
    · have b2 : ((ds.length : Int) != (ps.length : Int)) = false := by rw [bne, beq_iff_eq.2 (show (ds.length : Int) = (ps.length : Int) by omega)]; rfl
      have HLd := Lib.hid ld
      clear ld
      go_wp2
      clear b1 b2 z0 z1 x0 x1
      go_loopw [5] (fun t wr => ∃ i : Nat, t = .int .i64 i ∧ i ≤ ps.length ∧ Hid (∀ j, j < i → yOk bs ds j = true) ∧ Hid (Below W.heap.size W wr)) (fun t _ => ps.length - (intOf t).toNat)
      case atStart => exact ⟨0, rfl, by omega, fun j hj => absurd hj (Nat.not_lt_zero _), Below.refl _ _⟩
      case round =>
        obtain ⟨i, rfl, hi, HO, HW⟩ := hrel
        have HBw := Lib.hid (HB0.out.trans (HW.out.mono HB0.out.size))
        have hy0 := HY0.out.below HY0.out.lt HW.out
        have hy1 := HY1.out.below HY1.out.lt HW.out
        have z0 := hy0.cell 0 _ rfl
        have z1 := hy0.cell 1 _ rfl
        have x0 := hy1.cell 0 _ rfl
        have x1 := hy1.cell 1 _ rfl
        clear hy0 hy1
        by_cases hlt : i < ps.length
        · have hib : i < bs.length := by have := HLb.out; omega
          have hid' : i < ds.length := by have := HLd.out; omega
          obtain ⟨ab, rfl, xb⟩ := HBc.out i hib
          obtain ⟨ad, rfl, xd⟩ := HDc.out i hid'
          replace xb := below_cell HBw.out xb
          replace xd := below_cell HBw.out xd
          obtain ⟨X, hX⟩ : ∃ X, bs.getD i 0 = X := ⟨_, rfl⟩
          obtain ⟨Z, hZ⟩ : ∃ Z, ds.getD i 0 = Z := ⟨_, rfl⟩
          rw [hX] at xb
          rw [hZ] at xd
          have HYn := Lib.hid (fun h => solvesB_year (fs := fs) hlt (yOk_no hX hZ h))
          have HYy := Lib.hid (fun h => yOk_yes hX hZ h)
          clear hX hZ
          by_cases q0 : X < -4000
          · have c0 : decide (X < -4000) = true := decide_eq_true q0
            have hr := HR false (HYn.out (by omega))
            clear HR HYn HYy
            go_wp2
            go_quiet (fail)
            go_wp2
            go_ret
            first | exact ⟨by rw [hr.out]; rfl, below_drewN HBw.out _⟩ | exact ⟨by rw [hr.out]; rfl, HBw.out⟩
          · have c0 : decide (X < -4000) = false := decide_eq_false q0
            by_cases q1 : 4000 < X
            · have c1 : decide (4000 < X) = true := decide_eq_true q1
              have hr := HR false (HYn.out (by omega))
              clear HR HYn HYy
              go_wp2
              go_quiet (fail)
              go_wp2
              go_ret
              first | exact ⟨by rw [hr.out]; rfl, below_drewN HBw.out _⟩ | exact ⟨by rw [hr.out]; rfl, HBw.out⟩
            · have c1 : decide (4000 < X) = false := decide_eq_false q1
              by_cases q2 : Z < X
              · have c2 : decide (Z < X) = true := decide_eq_true q2
                have hr := HR false (HYn.out (by omega))
                clear HR HYn HYy
                go_wp2
                go_quiet (fail)
                go_wp2
                go_ret
                first | exact ⟨by rw [hr.out]; rfl, below_drewN HBw.out _⟩ | exact ⟨by rw [hr.out]; rfl, HBw.out⟩
              · have c2 : decide (Z < X) = false := decide_eq_false q2
                have n1 : IntKind.i64.wrap (X + 100) = X + 100 := IntWalk.i64_in _ (by omega)
                by_cases q3 : X + 100 < Z
                · have c3 : decide (X + 100 < Z) = true := decide_eq_true q3
                  have hr := HR false (HYn.out (by omega))
                  clear HR HYn HYy
                  go_wp2
                  go_quiet (fail)
                  go_wp2
                  go_ret
                  first | exact ⟨by rw [hr.out]; rfl, below_drewN HBw.out _⟩ | exact ⟨by rw [hr.out]; rfl, HBw.out⟩
                · have c3 : decide (X + 100 < Z) = false := decide_eq_false q3
                  have HK := Lib.hid (HYy.out (by omega))
                  clear HYn HYy
                  go_wp2
                  go_quiet (fail)
                  go_wp2
                  go_roundw
                  case rel => exact ⟨i + 1, by go_num, by omega, year_next HO.out HK.out, below_drewN HW.out _⟩
                  case measure => simp [intOf]; omega
        · have hin : i = ps.length := by omega
          have HYs := Lib.hid (show ∀ j, j < ps.length → yOk bs ds j = true by rw [← hin]; exact HO.out)
          clear HO hin hi
          go_wp2
          clear hlt z0 z1 x0 x1
          go_loopw [6] (fun t wx => ∃ j : Nat, t = .int .i64 j ∧ j ≤ fs.length ∧ Hid (∀ f ∈ fs.take j, meetsB ps bs ds f = true) ∧ Hid (Below W.heap.size W wx)) (fun t _ => fs.length - (intOf t).toNat)
          case atStart => exact ⟨0, rfl, by omega, fun f hf => by simp at hf, HW.out⟩
          case round =>
            clear HW HBw
            obtain ⟨j, rfl, hj, HO, HW⟩ := hrel
            obtain ⟨wx, hwx⟩ : ∃ wx, wx = wr := ⟨_, rfl⟩
            rw [← hwx] at HW ⊢
            clear hwx
            have HBw := Lib.hid (HB0.out.trans (HW.out.mono HB0.out.size))
            have hy0 := HY0.out.below HY0.out.lt HW.out
            have hy1 := HY1.out.below HY1.out.lt HW.out
            have z0' := hy0.cell 0 _ rfl
            have z1' := hy0.cell 1 _ rfl
            have x0' := hy1.cell 0 _ rfl
            have x1' := hy1.cell 1 _ rfl
            clear hy0 hy1
            by_cases hlj : j < fs.length
            · have hji : (j : Int) < (fs.length : Int) := by omega
              obtain ⟨b0, o0, rfl, _, hce⟩ := HFc.out (by omega)
              have hfj : fs[j]? = some fs[j] := List.getElem?_eq_getElem hlj
              obtain ⟨g1', g2', g3', g4'⟩ := hce j _ hfj
              replace g1' := below_cell HBw.out g1'
              replace g2' := below_cell HBw.out g2'
              replace g3' := below_cell HBw.out g3'
              replace g4' := below_cell HBw.out g4'
              have HT := Lib.hid (show fs.take (j + 1) = fs.take j ++ [fs[j]] by rw [List.take_add_one, hfj]; rfl)
              have HM := Lib.hid (fun w' (hw : Below wx.heap.size wx w') => meets_any (.slice A ps.length c) (.slice Ab bs.length cb) (.slice Ad ds.length cd) ps bs ds fs[j] w' ((HN.out.people.below HBw.out).below hw) ((HSb.out.below HBw.out).below hw) ((HSd.out.below HBw.out).below hw) HLb.out HLd.out HP.out (HA.out _ (List.getElem_mem hlj)) HYs.out)
              have HFa := Lib.hid (fun q => solvesB_fact (ps := ps) (bs := bs) (ds := ds) (List.getElem_mem hlj) q)
              clear hce hfj
              unfold faA at HM
              generalize fs[j] = f at *
              obtain ⟨k, a, b, t⟩ := f
              simp only at g1' g2' g3' g4' HM
              cases hq : meetsB ps bs ds ⟨k, a, b, t⟩ with
              | false =>
                have hr := HR false (HFa.out hq)
                rw [hq] at HM
                clear HR HFa hq
                go_upto_region 11 with fail
                refine wp_region_held_drew (S := fun w' => Below wx.heap.size wx w') (by kernel_rfl) (below_drew (Below.refl _ _)) (fun hHeld => ?_)
                refine wpAnyH_takeD (i := 0) (v := ?_) 78 rfl (by kernel_rfl) (by kernel_rfl) (by kernel_rfl) (fun _ _ _ h => h) (Or.inl ⟨by rfl, ?_⟩) (by assumption) rfl ?_
                rotate_left
                · intro w' hSw
                  have g1 := below_cell hSw g1'; have g2 := below_cell hSw g2'; have g3 := below_cell hSw g3'; have g4 := below_cell hSw g4'; have z0 := below_cell hSw z0'; have z1 := below_cell hSw z1'; have x0 := below_cell hSw x0'; have x1 := below_cell hSw x1'
                  go_simp <;> with_reducible rfl
                simp only [List.setIfInBounds_toArray, List.set_cons_succ, List.set_cons_zero]
                refine wpAnyH_takeD (i := 1) (v := ?_) 79 rfl (by kernel_rfl) (by kernel_rfl) (by kernel_rfl) (fun _ _ _ h => h) (Or.inl ⟨by rfl, ?_⟩) (by assumption) rfl ?_
                rotate_left
                · intro w' hSw
                  have g1 := below_cell hSw g1'; have g2 := below_cell hSw g2'; have g3 := below_cell hSw g3'; have g4 := below_cell hSw g4'; have z0 := below_cell hSw z0'; have z1 := below_cell hSw z1'; have x0 := below_cell hSw x0'; have x1 := below_cell hSw x1'
                  go_simp <;> with_reducible rfl
                simp only [List.setIfInBounds_toArray, List.set_cons_succ, List.set_cons_zero]
                refine wpAnyH_takeD (i := 2) (v := ?_) 80 rfl (by kernel_rfl) (by kernel_rfl) (by kernel_rfl) (fun _ _ _ h => h) (Or.inl ⟨by rfl, ?_⟩) (by assumption) rfl ?_
                rotate_left
                · intro w' hSw
                  have g1 := below_cell hSw g1'; have g2 := below_cell hSw g2'; have g3 := below_cell hSw g3'; have g4 := below_cell hSw g4'; have z0 := below_cell hSw z0'; have z1 := below_cell hSw z1'; have x0 := below_cell hSw x0'; have x1 := below_cell hSw x1'
                  go_simp <;> with_reducible rfl
                simp only [List.setIfInBounds_toArray, List.set_cons_succ, List.set_cons_zero]
                refine wpAnyH_takeD (i := 3) (v := ?_) 81 rfl (by kernel_rfl) (by kernel_rfl) (by kernel_rfl) (fun _ _ _ h => h) (Or.inl ⟨by rfl, ?_⟩) (by assumption) rfl ?_
                rotate_left
                · intro w' hSw
                  have g1 := below_cell hSw g1'; have g2 := below_cell hSw g2'; have g3 := below_cell hSw g3'; have g4 := below_cell hSw g4'; have z0 := below_cell hSw z0'; have z1 := below_cell hSw z1'; have x0 := below_cell hSw x0'; have x1 := below_cell hSw x1'
                  go_simp <;> with_reducible rfl
                simp only [List.setIfInBounds_toArray, List.set_cons_succ, List.set_cons_zero]
                refine wpAnyH_takeD (i := 4) (v := ?_) 82 rfl (by kernel_rfl) (by kernel_rfl) (by kernel_rfl) (fun _ _ _ h => h) (Or.inl ⟨by rfl, ?_⟩) (by assumption) rfl ?_
                rotate_left
                · intro w' hSw
                  have g1 := below_cell hSw g1'; have g2 := below_cell hSw g2'; have g3 := below_cell hSw g3'; have g4 := below_cell hSw g4'; have z0 := below_cell hSw z0'; have z1 := below_cell hSw z1'; have x0 := below_cell hSw x0'; have x1 := below_cell hSw x1'
                  go_simp <;> with_reducible rfl
                simp only [List.setIfInBounds_toArray, List.set_cons_succ, List.set_cons_zero]
                refine wpAnyH_takeD (i := 5) (v := ?_) 83 rfl (by kernel_rfl) (by kernel_rfl) (by kernel_rfl) (fun _ _ _ h => h) (Or.inl ⟨by rfl, ?_⟩) (by assumption) rfl ?_
                rotate_left
                · intro w' hSw
                  have g1 := below_cell hSw g1'; have g2 := below_cell hSw g2'; have g3 := below_cell hSw g3'; have g4 := below_cell hSw g4'; have z0 := below_cell hSw z0'; have z1 := below_cell hSw z1'; have x0 := below_cell hSw x0'; have x1 := below_cell hSw x1'
                  go_simp <;> with_reducible rfl
                simp only [List.setIfInBounds_toArray, List.set_cons_succ, List.set_cons_zero]
                refine wpAnyH_takeD (i := 6) (v := ?_) 84 rfl (by kernel_rfl) (by kernel_rfl) (by kernel_rfl) (fun _ _ _ h => h) (Or.inl ⟨by rfl, ?_⟩) (by assumption) rfl ?_
                rotate_left
                · intro w' hSw
                  have g1 := below_cell hSw g1'; have g2 := below_cell hSw g2'; have g3 := below_cell hSw g3'; have g4 := below_cell hSw g4'; have z0 := below_cell hSw z0'; have z1 := below_cell hSw z1'; have x0 := below_cell hSw x0'; have x1 := below_cell hSw x1'
                  go_simp <;> with_reducible rfl
                simp only [List.setIfInBounds_toArray, List.set_cons_succ, List.set_cons_zero]
                refine wpAnyH_takeD (i := 7) (v := ?_) 85 rfl (by kernel_rfl) (by kernel_rfl) (by kernel_rfl) (fun _ _ _ h => h) (Or.inl ⟨by rfl, ?_⟩) (by assumption) rfl ?_
                rotate_left
                · intro w' hSw
                  have g1 := below_cell hSw g1'; have g2 := below_cell hSw g2'; have g3 := below_cell hSw g3'; have g4 := below_cell hSw g4'; have z0 := below_cell hSw z0'; have z1 := below_cell hSw z1'; have x0 := below_cell hSw x0'; have x1 := below_cell hSw x1'
                  go_simp <;> with_reducible rfl
                simp only [List.setIfInBounds_toArray, List.set_cons_succ, List.set_cons_zero]
                refine wpAnyH_ready (rs := [8]) (by kernel_rfl) (by simp) ?_
                refine AllReadyH.cons (o := _) rfl (fun K hK => ?_) AllReadyH.nil
                go_simp
                go_at_call 30
                refine (HM.out _ hHeld).mono ?_
                rintro e w2 ⟨rfl, hb2⟩
                have HB2 := Lib.hid (hHeld.trans (hb2.mono hHeld.size))
                clear hb2
                refine hK.out _ _ HB2.out (fun hHeld2 => ?_)
                clear hK K
                refine wpAnyH_takeD (i := 9) (v := ?_) 87 rfl (by kernel_rfl) (by kernel_rfl) (by kernel_rfl) (fun _ _ _ h => h) (Or.inl ⟨by rfl, ?_⟩) (by assumption) rfl ?_
                rotate_left
                · intro w' hSw
                  have g1 := below_cell hSw g1'; have g2 := below_cell hSw g2'; have g3 := below_cell hSw g3'; have g4 := below_cell hSw g4'; have z0 := below_cell hSw z0'; have z1 := below_cell hSw z1'; have x0 := below_cell hSw x0'; have x1 := below_cell hSw x1'
                  go_simp <;> with_reducible rfl
                simp only [List.setIfInBounds_toArray, List.set_cons_succ, List.set_cons_zero]
                refine wpAnyH_done (by kernel_rfl) ?_ _
                go_wp2
                go_ret
                exact ⟨by rw [hr.out]; rfl, HBw.out.trans (HB2.out.mono HBw.out.size)⟩
              | true =>
                have HQ := Lib.hid hq
                rw [hq] at HM
                clear HFa hq
                go_upto_region 11 with fail
                refine wp_region_held_drew (S := fun w' => Below wx.heap.size wx w') (by kernel_rfl) (below_drew (Below.refl _ _)) (fun hHeld => ?_)
                refine wpAnyH_takeD (i := 0) (v := ?_) 78 rfl (by kernel_rfl) (by kernel_rfl) (by kernel_rfl) (fun _ _ _ h => h) (Or.inl ⟨by rfl, ?_⟩) (by assumption) rfl ?_
                rotate_left
                · intro w' hSw
                  have g1 := below_cell hSw g1'; have g2 := below_cell hSw g2'; have g3 := below_cell hSw g3'; have g4 := below_cell hSw g4'; have z0 := below_cell hSw z0'; have z1 := below_cell hSw z1'; have x0 := below_cell hSw x0'; have x1 := below_cell hSw x1'
                  go_simp <;> with_reducible rfl
                simp only [List.setIfInBounds_toArray, List.set_cons_succ, List.set_cons_zero]
                refine wpAnyH_takeD (i := 1) (v := ?_) 79 rfl (by kernel_rfl) (by kernel_rfl) (by kernel_rfl) (fun _ _ _ h => h) (Or.inl ⟨by rfl, ?_⟩) (by assumption) rfl ?_
                rotate_left
                · intro w' hSw
                  have g1 := below_cell hSw g1'; have g2 := below_cell hSw g2'; have g3 := below_cell hSw g3'; have g4 := below_cell hSw g4'; have z0 := below_cell hSw z0'; have z1 := below_cell hSw z1'; have x0 := below_cell hSw x0'; have x1 := below_cell hSw x1'
                  go_simp <;> with_reducible rfl
                simp only [List.setIfInBounds_toArray, List.set_cons_succ, List.set_cons_zero]
                refine wpAnyH_takeD (i := 2) (v := ?_) 80 rfl (by kernel_rfl) (by kernel_rfl) (by kernel_rfl) (fun _ _ _ h => h) (Or.inl ⟨by rfl, ?_⟩) (by assumption) rfl ?_
                rotate_left
                · intro w' hSw
                  have g1 := below_cell hSw g1'; have g2 := below_cell hSw g2'; have g3 := below_cell hSw g3'; have g4 := below_cell hSw g4'; have z0 := below_cell hSw z0'; have z1 := below_cell hSw z1'; have x0 := below_cell hSw x0'; have x1 := below_cell hSw x1'
                  go_simp <;> with_reducible rfl
                simp only [List.setIfInBounds_toArray, List.set_cons_succ, List.set_cons_zero]
                refine wpAnyH_takeD (i := 3) (v := ?_) 81 rfl (by kernel_rfl) (by kernel_rfl) (by kernel_rfl) (fun _ _ _ h => h) (Or.inl ⟨by rfl, ?_⟩) (by assumption) rfl ?_
                rotate_left
                · intro w' hSw
                  have g1 := below_cell hSw g1'; have g2 := below_cell hSw g2'; have g3 := below_cell hSw g3'; have g4 := below_cell hSw g4'; have z0 := below_cell hSw z0'; have z1 := below_cell hSw z1'; have x0 := below_cell hSw x0'; have x1 := below_cell hSw x1'
                  go_simp <;> with_reducible rfl
                simp only [List.setIfInBounds_toArray, List.set_cons_succ, List.set_cons_zero]
                refine wpAnyH_takeD (i := 4) (v := ?_) 82 rfl (by kernel_rfl) (by kernel_rfl) (by kernel_rfl) (fun _ _ _ h => h) (Or.inl ⟨by rfl, ?_⟩) (by assumption) rfl ?_
                rotate_left
                · intro w' hSw
                  have g1 := below_cell hSw g1'; have g2 := below_cell hSw g2'; have g3 := below_cell hSw g3'; have g4 := below_cell hSw g4'; have z0 := below_cell hSw z0'; have z1 := below_cell hSw z1'; have x0 := below_cell hSw x0'; have x1 := below_cell hSw x1'
                  go_simp <;> with_reducible rfl
                simp only [List.setIfInBounds_toArray, List.set_cons_succ, List.set_cons_zero]
                refine wpAnyH_takeD (i := 5) (v := ?_) 83 rfl (by kernel_rfl) (by kernel_rfl) (by kernel_rfl) (fun _ _ _ h => h) (Or.inl ⟨by rfl, ?_⟩) (by assumption) rfl ?_
                rotate_left
                · intro w' hSw
                  have g1 := below_cell hSw g1'; have g2 := below_cell hSw g2'; have g3 := below_cell hSw g3'; have g4 := below_cell hSw g4'; have z0 := below_cell hSw z0'; have z1 := below_cell hSw z1'; have x0 := below_cell hSw x0'; have x1 := below_cell hSw x1'
                  go_simp <;> with_reducible rfl
                simp only [List.setIfInBounds_toArray, List.set_cons_succ, List.set_cons_zero]
                refine wpAnyH_takeD (i := 6) (v := ?_) 84 rfl (by kernel_rfl) (by kernel_rfl) (by kernel_rfl) (fun _ _ _ h => h) (Or.inl ⟨by rfl, ?_⟩) (by assumption) rfl ?_
                rotate_left
                · intro w' hSw
                  have g1 := below_cell hSw g1'; have g2 := below_cell hSw g2'; have g3 := below_cell hSw g3'; have g4 := below_cell hSw g4'; have z0 := below_cell hSw z0'; have z1 := below_cell hSw z1'; have x0 := below_cell hSw x0'; have x1 := below_cell hSw x1'
                  go_simp <;> with_reducible rfl
                simp only [List.setIfInBounds_toArray, List.set_cons_succ, List.set_cons_zero]
                refine wpAnyH_takeD (i := 7) (v := ?_) 85 rfl (by kernel_rfl) (by kernel_rfl) (by kernel_rfl) (fun _ _ _ h => h) (Or.inl ⟨by rfl, ?_⟩) (by assumption) rfl ?_
                rotate_left
                · intro w' hSw
                  have g1 := below_cell hSw g1'; have g2 := below_cell hSw g2'; have g3 := below_cell hSw g3'; have g4 := below_cell hSw g4'; have z0 := below_cell hSw z0'; have z1 := below_cell hSw z1'; have x0 := below_cell hSw x0'; have x1 := below_cell hSw x1'
                  go_simp <;> with_reducible rfl
                simp only [List.setIfInBounds_toArray, List.set_cons_succ, List.set_cons_zero]
                refine wpAnyH_ready (rs := [8]) (by kernel_rfl) (by simp) ?_
                refine AllReadyH.cons (o := _) rfl (fun K hK => ?_) AllReadyH.nil
                go_simp
                go_at_call 30
                refine (HM.out _ hHeld).mono ?_
                rintro e w2 ⟨rfl, hb2⟩
                have HB2 := Lib.hid (hHeld.trans (hb2.mono hHeld.size))
                clear hb2
                refine hK.out _ _ HB2.out (fun hHeld2 => ?_)
                clear hK K
                refine wpAnyH_takeD (i := 9) (v := ?_) 87 rfl (by kernel_rfl) (by kernel_rfl) (by kernel_rfl) (fun _ _ _ h => h) (Or.inl ⟨by rfl, ?_⟩) (by assumption) rfl ?_
                rotate_left
                · intro w' hSw
                  have g1 := below_cell hSw g1'; have g2 := below_cell hSw g2'; have g3 := below_cell hSw g3'; have g4 := below_cell hSw g4'; have z0 := below_cell hSw z0'; have z1 := below_cell hSw z1'; have x0 := below_cell hSw x0'; have x1 := below_cell hSw x1'
                  go_simp <;> with_reducible rfl
                simp only [List.setIfInBounds_toArray, List.set_cons_succ, List.set_cons_zero]
                refine wpAnyH_done (by kernel_rfl) ?_ _
                go_wp2
                go_roundw
                case rel =>
                  refine ⟨j + 1, by go_num, by omega, ?_, HW.out.trans (HB2.out.mono HW.out.size)⟩
                  show ∀ f ∈ fs.take (j + 1), meetsB ps bs ds f = true
                  rw [HT.out]
                  intro f hf
                  rcases List.mem_append.1 hf with q | q
                  · exact HO.out f q
                  · rw [List.mem_singleton.1 q]; exact HQ.out
                case measure => simp [intOf]; omega
            · have hr := HR true (solvesB_yes ⟨HLb.out, HLd.out⟩ HYs.out (by have := HO.out; rw [List.take_of_length_le (by omega)] at this; exact this))
              clear HR HO
              go_wp2
              go_ret
              exact ⟨by rw [hr.out]; rfl, HBw.out⟩
    · have b2 : ((ds.length : Int) != (ps.length : Int)) = true := by rw [bne, beq_eq_false_iff_ne.2 (show (ds.length : Int) ≠ (ps.length : Int) by omega)]; rfl
      have hr := HR false (solvesB_len (fun q => ld q.2))
      clear HR ld
      go_wp2
      go_ret
      exact ⟨by rw [hr.out]; rfl, HB0.out⟩
  · have b1 : ((bs.length : Int) != (ps.length : Int)) = true := by rw [bne, beq_eq_false_iff_ne.2 (show (bs.length : Int) ≠ (ps.length : Int) by omega)]; rfl
    have hr := HR false (solvesB_len (fun q => lb q.1))
    clear HR lb
    go_wp2
    go_ret
    exact ⟨by rw [hr.out]; rfl, HB0.out⟩
end

section
open Go Go.RowKit Go.Shelf
attribute [local go_sem] Oper.semAt_some

theorem livesV_get {D : Mat} {n i t : Nat} {u : Value} (hi : i < n) (h : (lifeV D i)[t]? = some u) : (livesV D n)[i * 4 + t]? = some u := by
  have ht : t < 4 := by
    have := (List.getElem?_eq_some_iff.1 h).1
    simpa [lifeV] using this
  induction n with
  | zero => omega
  | succ n ih =>
    rw [livesV_succ]
    by_cases e : i = n
    · subst e
      rw [List.getElem?_append_right (by rw [livesV_length]; omega), livesV_length, show i * 4 + t - i * 4 = t by omega]
      exact h
    · rw [List.getElem?_append_left (by rw [livesV_length]; omega)]
      exact ih (by omega)
def intsV (q : Nat → Int) (n : Nat) : List Value := ((List.range n).map q).map (Value.int .i64)
theorem intsV_succ (q : Nat → Int) (n : Nat) : intsV q (n + 1) = intsV q n ++ [.int .i64 (q n)] := by simp [intsV, List.range_succ]
theorem intsV_length (q : Nat → Int) (n : Nat) : (intsV q n).length = n := by simp [intsV]
/-- Two rows that grow beside each other, in the two cells of a box. -/
structure TwoR (w wr : World) (base Y : Nat) (t : TypeId) (va vb : Value) (n m : Nat) (xs ys : List Value) : Prop where
  cel : Cel wr Y t #[va, vb]
  a : wr.ownsRow base 3 1 va n xs
  b : wr.ownsRow base 3 1 vb m ys
  ne : ∀ g, va.ownBlock = some g → vb.ownBlock ≠ some g
  hY : Y < base
  below : Below w.heap.size w wr
section
variable {w wr w1 : World} {base Y : Nat} {t : TypeId} {va vb : Value} {n m N c : Nat} {A : Option Addr} {xs ys news : List Value}
theorem TwoR.drew (h : TwoR w wr base Y t va vb n m xs ys) : TwoR w wr.drew base Y t va vb n m xs ys := ⟨h.cel, h.a, h.b, h.ne, h.hY, below_drew h.below⟩
theorem TwoR.alloc (h : TwoR w wr base Y t va vb n m xs ys) (o : Obj) : TwoR w (wr.alloc o) base Y t va vb n m xs ys := ⟨h.cel.alloc o, h.a.alloc o, h.b.alloc o, h.ne, h.hY, h.below.alloc h.below.size o⟩
theorem TwoR.putA (h : TwoR w wr base Y t va vb n m xs ys) (hw : w.heap.size ≤ Y) (hap : Appended base 3 1 va xs news wr w1 A N c) : TwoR w (w1.setCell ⟨Y, 0, none⟩ (.slice A N c)) base Y t (.slice A N c) vb N m (xs ++ news) ys := by
  have hY := h.hY
  have hne : some Y ≠ va.ownBlock := fun e => by have := own_ge h.a e.symm; omega
  have c1 := h.cel.kept hap.grown hne
  have b1 := own_keep h.b hap.grown (fun g h1 h2 => h.ne g h2 h1)
  have dis : ∀ g, (Value.slice A N c).ownBlock = some g → vb.ownBlock ≠ some g := by
    rcases hap.block with e | e
    · rw [e]; exact h.ne
    · rw [e]; intro g e1 e2
      injection e1 with e1
      subst e1
      have := own_lt h.b e2
      omega
  have bl := below_of_own hap.grown h.a h.below (by omega)
  exact ⟨c1.setAt 0 _, own_ne hap.own (fun e => by have := own_ge hap.own e; simp at this; omega) _, own_ne b1 (fun e => by have := own_ge b1 e; simp at this; omega) _, dis, hY, bl.setCell (by simp; omega) _⟩
theorem TwoR.midA (h : TwoR w wr base Y t va vb n m xs ys) (hap : Appended base 3 1 va xs news wr w1 A N c) : Cel w1 Y t #[va, vb] :=
  h.cel.kept hap.grown (fun e => by have := own_ge h.a e.symm; have := h.hY; omega)
theorem TwoR.midB (h : TwoR w wr base Y t va vb n m xs ys) (hap : Appended base 3 1 vb ys news wr w1 A N c) : Cel w1 Y t #[va, vb] :=
  h.cel.kept hap.grown (fun e => by have := own_ge h.b e.symm; have := h.hY; omega)
theorem TwoR.farA (h : TwoR w wr base Y t va vb n m xs ys) (hap : Appended base 3 1 va xs news wr w1 A N c) {R : Nat} {t' : TypeId} {vs : Array Value} (hc : Cel wr R t' vs) (hR : R < Y) (u : Value) (j : Nat) : Cel (w1.setCell ⟨Y, j, none⟩ u) R t' vs :=
  (hc.kept hap.grown (fun e => by have := own_ge h.a e.symm; have := h.hY; omega)).other (by simp; omega) u
theorem TwoR.farB (h : TwoR w wr base Y t va vb n m xs ys) (hap : Appended base 3 1 vb ys news wr w1 A N c) {R : Nat} {t' : TypeId} {vs : Array Value} (hc : Cel wr R t' vs) (hR : R < Y) (u : Value) (j : Nat) : Cel (w1.setCell ⟨Y, j, none⟩ u) R t' vs :=
  (hc.kept hap.grown (fun e => by have := own_ge h.b e.symm; have := h.hY; omega)).other (by simp; omega) u
theorem TwoR.putB (h : TwoR w wr base Y t va vb n m xs ys) (hw : w.heap.size ≤ Y) (hap : Appended base 3 1 vb ys news wr w1 A N c) : TwoR w (w1.setCell ⟨Y, 1, none⟩ (.slice A N c)) base Y t va (.slice A N c) n N xs (ys ++ news) := by
  have hY := h.hY
  have hne : some Y ≠ vb.ownBlock := fun e => by have := own_ge h.b e.symm; omega
  have c1 := h.cel.kept hap.grown hne
  have a1 := own_keep h.a hap.grown (fun g h1 h2 => h.ne g h1 h2)
  have dis : ∀ g, va.ownBlock = some g → (Value.slice A N c).ownBlock ≠ some g := by
    rcases hap.block with e | e
    · rw [e]; exact h.ne
    · rw [e]; intro g e1 e2
      injection e2 with e2
      subst e2
      have := own_lt h.a e1
      omega
  have bl := below_of_own hap.grown h.b h.below (by omega)
  exact ⟨c1.setAt 1 _, own_ne a1 (fun e => by have := own_ge a1 e; simp at this; omega) _, own_ne hap.own (fun e => by have := own_ge hap.own e; simp at this; omega) _, dis, hY, bl.setCell (by simp; omega) _⟩
end
set_option maxRecDepth 100000 in
set_option maxHeartbeats 4000000 in
theorem first_any (v : Value) (D : Mat) (n : Nat) (w : World) (h : Sl w 4 v (livesV D n)) (hn : n ≤ 24) :
    Calls Tryd.prog 28 #[v] w fun e w' => ∃ va vb, e = .returned (.agg #[va, vb]) ∧ Sl w' 1 va (intsV (fun i => -(D 48 (2 * i))) n) ∧ Sl w' 1 vb (intsV (fun i => -(D 48 (2 * i + 1))) n) ∧ Below w.heap.size w w' := by
  obtain ⟨A, n', c, rfl, hl, hc1, hc2, hcell⟩ := h.open2 (by decide)
  rw [livesV_length] at hl
  obtain rfl : n = n' := by omega
  clear hl
  have hb0 := (below_alloc' w (.cells #[.slice none 0 0, .slice none 0 0] 45)).alloc (by simp) (.cells #[.slice none 0 0, .slice none 0 0] 45)
  have y0 := (Cel.new w 45 #[.slice none 0 0, .slice none 0 0]).alloc (.cells #[.slice none 0 0, .slice none 0 0] 45)
  have y1 := Cel.new (w.alloc (.cells #[.slice none 0 0, .slice none 0 0] 45)) 45 #[.slice none 0 0, .slice none 0 0]
  rw [World.size_alloc] at y1
  obtain ⟨W, hW⟩ : ∃ W, (w.alloc (.cells #[.slice none 0 0, .slice none 0 0] 45)).alloc (.cells #[.slice none 0 0, .slice none 0 0] 45) = W := ⟨_, rfl⟩
  have hsz : W.heap.size = w.heap.size + 1 + 1 := by rw [← hW]; simp
  rw [hW] at hb0 y0 y1
  have HC := Lib.hid hcell
  have HT0 := Lib.hid (show TwoR w W (w.heap.size + 1 + 1) (w.heap.size + 1) 45 (.slice none 0 0) (.slice none 0 0) 0 0 [] [] from ⟨y1, World.ownsRow_nil _ _ _ _, World.ownsRow_nil _ _ _ _, (fun g e => by cases e), by omega, hb0⟩)
  have HR := Lib.hid y0
  have HLe := Lib.hid (show w.heap.size + 1 + 1 ≤ W.heap.size by omega)
  clear h hcell hb0 y0 y1 hsz
  go_enter Tryd.func28, Tryd.ntmps28
  go_wp2
  clear hW
  go_loopw [4] (fun ti wr => ∃ (i : Nat) (va vb : Value), ti = .int .i64 i ∧ i ≤ n ∧ Hid (TwoR w wr (w.heap.size + 1 + 1) (w.heap.size + 1) 45 va vb i i (intsV (fun i => -(D 48 (2 * i))) i) (intsV (fun i => -(D 48 (2 * i + 1))) i)) ∧ Hid (Cel wr w.heap.size 45 #[.slice none 0 0, .slice none 0 0]) ∧ Hid (w.heap.size + 1 + 1 ≤ wr.heap.size)) (fun ti _ => n - (intOf ti).toNat)
  case atStart => exact ⟨0, _, _, rfl, by omega, HT0.out, HR.out, HLe.out⟩
  case round =>
    clear HT0 HR HLe
    obtain ⟨i, va, vb, rfl, hi, HT, HR, HLe⟩ := hrel
    by_cases hlt : i < n
    · have hii : (i : Int) < (n : Int) := by omega
      obtain ⟨b, o, rfl, hb, hce⟩ := HC.out (by omega)
      have g1' := below_cell HT.out.below (hce _ _ (livesV_get hlt (t := 0) rfl))
      have g2' := below_cell HT.out.below (hce _ _ (livesV_get hlt (t := 2) rfl))
      obtain ⟨x, hx⟩ : ∃ x, (fun i => -(D 48 (2 * i))) i = x := ⟨_, rfl⟩
      obtain ⟨y, hy⟩ : ∃ y, (fun i => -(D 48 (2 * i + 1))) i = y := ⟨_, rfl⟩
      replace g1' : wr.cell? ⟨b, o + i * 4, none⟩ = some (.int .i64 x) := by rw [← hx]; exact g1'
      replace g2' : wr.cell? ⟨b, o + i * 4 + 2, none⟩ = some (.int .i64 y) := by rw [← hy]; exact g2'
      have HX := Lib.hid (show intsV (fun i => -(D 48 (2 * i))) (i + 1) = intsV (fun i => -(D 48 (2 * i))) i ++ [.int .i64 x] by rw [intsV_succ]; rw [← hx])
      have HYy := Lib.hid (show intsV (fun i => -(D 48 (2 * i + 1))) (i + 1) = intsV (fun i => -(D 48 (2 * i + 1))) i ++ [.int .i64 y] by rw [intsV_succ]; rw [← hy])
      have HL1 := Lib.hid (intsV_length (fun i => -(D 48 (2 * i))) i)
      have HL2 := Lib.hid (intsV_length (fun i => -(D 48 (2 * i + 1))) i)
      generalize intsV (fun i => -(D 48 (2 * i))) i = xs at *
      generalize intsV (fun i => -(D 48 (2 * i + 1))) i = ys at *
      have HYe := Lib.hid hy
      clear hx hy
      obtain ⟨Aa, ca, rfl, _⟩ := own_shape HT.out.a
      obtain ⟨Ab, cb, rfl, _⟩ := own_shape HT.out.b
      have z0 := HT.out.cel.cell 0 _ rfl
      have f0 := HT.out.cel.frozen 0
      have z0a := (HT.out.cel.alloc (.cells #[.int .i64 x] 3)).cell 0 _ rfl
      have HB := Lib.hid hb
      go_upto_region 5 with fail
      go_region_law (refine stepInt (.tmp 12) (.tmp 18) rfl rfl (by rfl) (by rfl) (HT.out.drew.alloc (.cells #[.int .i64 x] 3)).a (Sl.new (s := 1) _ 3 1 1 #[.int .i64 x] rfl (Nat.le_refl _) (by decide)) (by simp [Value.oneCell']) (N := i + 1) (by simp) (by omega) (by have := HLe.out; simp; omega) ?_; intro A5 c5 w5 hap; have HT5 := Lib.hid ((HT.out.drew.alloc (.cells #[.int .i64 x] 3)).putA (by omega) hap); have HR5 := Lib.hid ((HT.out.drew.alloc (.cells #[.int .i64 x] 3)).farA hap ((show Cel (World.drew _) _ _ _ from HR.out).alloc (.cells #[.int .i64 x] 3)) (by omega) (.slice A5 (i + 1) c5) 0); have cy := (HT.out.drew.alloc (.cells #[.int .i64 x] 3)).midA hap; have q5 := cy.cell 0 _ rfl; have f5 := cy.frozen 0; have hg5 := hap.grown.size; clear hap cy)
      all_goals (
        have HLe5 := Lib.hid (show w.heap.size + 1 + 1 ≤ (w5.setCell ⟨w.heap.size + 1, 0, none⟩ (.slice A5 (i + 1) c5)).heap.size by have := HLe.out; simp at hg5 ⊢; omega)
        have HW5 := Lib.hid (HT5.out.below)
        clear q5 f5 hg5 z0 f0 g1' z0a
        generalize w5.setCell ⟨w.heap.size + 1, 0, none⟩ (.slice A5 (i + 1) c5) = W5 at *
        have g2 := below_cell HW5.out (hce _ _ (livesV_get hlt (t := 2) rfl)) 
        replace g2 : W5.cell? ⟨b, o + i * 4 + 2, none⟩ = some (.int .i64 y) := by rw [← HYe.out]; exact g2
        have z1 := HT5.out.cel.cell 1 (.slice Ab i cb) rfl
        have f1 := HT5.out.cel.frozen 1
        have z1a := (HT5.out.cel.alloc (.cells #[.int .i64 y] 3)).cell 1 (.slice Ab i cb) rfl
        clear g2' hce
        go_upto_region 6 with fail
        go_region_law (refine stepInt (.tmp 22) (.tmp 28) rfl rfl (by rfl) (by rfl) (HT5.out.drew.alloc (.cells #[.int .i64 y] 3)).b (Sl.new (s := 1) _ 3 1 1 #[.int .i64 y] rfl (Nat.le_refl _) (by decide)) (by simp [Value.oneCell']) (N := i + 1) (by simp) (by omega) (by have := HLe5.out; simp; omega) ?_; intro A6 c6 w6 hap; have HT6 := Lib.hid ((HT5.out.drew.alloc (.cells #[.int .i64 y] 3)).putB (by omega) hap); have HR6 := Lib.hid ((HT5.out.drew.alloc (.cells #[.int .i64 y] 3)).farB hap ((show Cel (World.drew _) _ _ _ from HR5.out).alloc (.cells #[.int .i64 y] 3)) (by omega) (.slice A6 (i + 1) c6) 1); have cy := (HT5.out.drew.alloc (.cells #[.int .i64 y] 3)).midB hap; have q6 := cy.cell 1 _ rfl; have f6 := cy.frozen 1; have hg6 := hap.grown.size; clear hap cy)
        all_goals (
          have HLe6 := Lib.hid (show w.heap.size + 1 + 1 ≤ (w6.setCell ⟨w.heap.size + 1, 1, none⟩ (.slice A6 (i + 1) c6)).heap.size by have := HLe5.out; simp at hg6 ⊢; omega)
          clear q6 f6 hg6 z1 f1 g2 z1a
          generalize w6.setCell ⟨w.heap.size + 1, 1, none⟩ (.slice A6 (i + 1) c6) = W6 at *
          go_wp2
          go_roundw
          case rel => exact ⟨i + 1, .slice A5 (i + 1) c5, .slice A6 (i + 1) c6, by go_num, by omega, by rw [HX.out, HYy.out]; exact HT6.out, HR6.out, HLe6.out⟩
          case measure => simp [intOf]; omega))
    · have hin : i = n := by omega
      have HIn := Lib.hid hin
      clear hin hi
      obtain ⟨Aa, ca, rfl, _⟩ := own_shape HT.out.a
      obtain ⟨Ab, cb, rfl, _⟩ := own_shape HT.out.b
      have z0 := HT.out.cel.cell 0 _ rfl
      have z1 := HT.out.cel.cell 1 _ rfl
      have r0 := HR.out.cell 0 _ rfl
      have r1 := HR.out.cell 1 _ rfl
      have f0 := HR.out.frozen 0
      have f1 := HR.out.frozen 1
      go_wp2
      have hA := own_ne (own_ne HT.out.a (p := ⟨w.heap.size, 0, none⟩) (fun e => by have := own_ge HT.out.a e; simp at this; omega) (.slice Aa i ca)) (p := ⟨w.heap.size, 1, none⟩) (fun e => by have := own_ge HT.out.a e; simp at this; omega) (.slice Ab i cb)
      have hB := own_ne (own_ne HT.out.b (p := ⟨w.heap.size, 0, none⟩) (fun e => by have := own_ge HT.out.b e; simp at this; omega) (.slice Aa i ca)) (p := ⟨w.heap.size, 1, none⟩) (fun e => by have := own_ge HT.out.b e; simp at this; omega) (.slice Ab i cb)
      have k := HR.out.set2 (.slice Aa i ca) (.slice Ab i cb)
      have k0 := k.cell 0 _ rfl
      have k1 := k.cell 1 _ rfl
      have hS1 := Sl.of_own hA
      have hS2 := Sl.of_own hB
      exact bodyPost_ret (v := .agg #[.slice Aa i ca, .slice Ab i cb]) (by simp [results, Tryd.results28, go_sem, k0, k1]) rfl ⟨_, _, rfl, by rw [← HIn.out]; exact hS1, by rw [← HIn.out]; exact hS2, (HT.out.below.setCell (p := ⟨w.heap.size, 0, none⟩) (by simp) _).setCell (p := ⟨w.heap.size, 1, none⟩) (by simp) _⟩
set_option maxRecDepth 100000 in
set_option maxHeartbeats 4000000 in
theorem last_any (v : Value) (D : Mat) (n : Nat) (w : World) (h : Sl w 4 v (livesV D n)) (hn : n ≤ 24) :
    Calls Tryd.prog 29 #[v] w fun e w' => ∃ va vb, e = .returned (.agg #[va, vb]) ∧ Sl w' 1 va (intsV (fun i => D (2 * i) 48) n) ∧ Sl w' 1 vb (intsV (fun i => D (2 * i + 1) 48) n) ∧ Below w.heap.size w w' := by
  obtain ⟨A, n', c, rfl, hl, hc1, hc2, hcell⟩ := h.open2 (by decide)
  rw [livesV_length] at hl
  obtain rfl : n = n' := by omega
  clear hl
  have hb0 := (below_alloc' w (.cells #[.slice none 0 0, .slice none 0 0] 45)).alloc (by simp) (.cells #[.slice none 0 0, .slice none 0 0] 45)
  have y0 := (Cel.new w 45 #[.slice none 0 0, .slice none 0 0]).alloc (.cells #[.slice none 0 0, .slice none 0 0] 45)
  have y1 := Cel.new (w.alloc (.cells #[.slice none 0 0, .slice none 0 0] 45)) 45 #[.slice none 0 0, .slice none 0 0]
  rw [World.size_alloc] at y1
  obtain ⟨W, hW⟩ : ∃ W, (w.alloc (.cells #[.slice none 0 0, .slice none 0 0] 45)).alloc (.cells #[.slice none 0 0, .slice none 0 0] 45) = W := ⟨_, rfl⟩
  have hsz : W.heap.size = w.heap.size + 1 + 1 := by rw [← hW]; simp
  rw [hW] at hb0 y0 y1
  have HC := Lib.hid hcell
  have HT0 := Lib.hid (show TwoR w W (w.heap.size + 1 + 1) (w.heap.size + 1) 45 (.slice none 0 0) (.slice none 0 0) 0 0 [] [] from ⟨y1, World.ownsRow_nil _ _ _ _, World.ownsRow_nil _ _ _ _, (fun g e => by cases e), by omega, hb0⟩)
  have HR := Lib.hid y0
  have HLe := Lib.hid (show w.heap.size + 1 + 1 ≤ W.heap.size by omega)
  clear h hcell hb0 y0 y1 hsz
  go_enter Tryd.func29, Tryd.ntmps29
  go_wp2
  clear hW
  go_loopw [4] (fun ti wr => ∃ (i : Nat) (va vb : Value), ti = .int .i64 i ∧ i ≤ n ∧ Hid (TwoR w wr (w.heap.size + 1 + 1) (w.heap.size + 1) 45 va vb i i (intsV (fun i => D (2 * i) 48) i) (intsV (fun i => D (2 * i + 1) 48) i)) ∧ Hid (Cel wr w.heap.size 45 #[.slice none 0 0, .slice none 0 0]) ∧ Hid (w.heap.size + 1 + 1 ≤ wr.heap.size)) (fun ti _ => n - (intOf ti).toNat)
  case atStart => exact ⟨0, _, _, rfl, by omega, HT0.out, HR.out, HLe.out⟩
  case round =>
    clear HT0 HR HLe
    obtain ⟨i, va, vb, rfl, hi, HT, HR, HLe⟩ := hrel
    by_cases hlt : i < n
    · have hii : (i : Int) < (n : Int) := by omega
      obtain ⟨b, o, rfl, hb, hce⟩ := HC.out (by omega)
      have g1' := below_cell HT.out.below (hce _ _ (livesV_get hlt (t := 1) rfl))
      have g2' := below_cell HT.out.below (hce _ _ (livesV_get hlt (t := 3) rfl))
      obtain ⟨x, hx⟩ : ∃ x, (fun i => D (2 * i) 48) i = x := ⟨_, rfl⟩
      obtain ⟨y, hy⟩ : ∃ y, (fun i => D (2 * i + 1) 48) i = y := ⟨_, rfl⟩
      replace g1' : wr.cell? ⟨b, o + i * 4 + 1, none⟩ = some (.int .i64 x) := by rw [← hx]; exact g1'
      replace g2' : wr.cell? ⟨b, o + i * 4 + 3, none⟩ = some (.int .i64 y) := by rw [← hy]; exact g2'
      have HX := Lib.hid (show intsV (fun i => D (2 * i) 48) (i + 1) = intsV (fun i => D (2 * i) 48) i ++ [.int .i64 x] by rw [intsV_succ]; rw [← hx])
      have HYy := Lib.hid (show intsV (fun i => D (2 * i + 1) 48) (i + 1) = intsV (fun i => D (2 * i + 1) 48) i ++ [.int .i64 y] by rw [intsV_succ]; rw [← hy])
      have HL1 := Lib.hid (intsV_length (fun i => D (2 * i) 48) i)
      have HL2 := Lib.hid (intsV_length (fun i => D (2 * i + 1) 48) i)
      generalize intsV (fun i => D (2 * i) 48) i = xs at *
      generalize intsV (fun i => D (2 * i + 1) 48) i = ys at *
      have HYe := Lib.hid hy
      clear hx hy
      obtain ⟨Aa, ca, rfl, _⟩ := own_shape HT.out.a
      obtain ⟨Ab, cb, rfl, _⟩ := own_shape HT.out.b
      have z0 := HT.out.cel.cell 0 _ rfl
      have f0 := HT.out.cel.frozen 0
      have z0a := (HT.out.cel.alloc (.cells #[.int .i64 x] 3)).cell 0 _ rfl
      have HB := Lib.hid hb
      go_upto_region 5 with fail
      go_region_law (refine stepInt (.tmp 12) (.tmp 18) rfl rfl (by rfl) (by rfl) (HT.out.drew.alloc (.cells #[.int .i64 x] 3)).a (Sl.new (s := 1) _ 3 1 1 #[.int .i64 x] rfl (Nat.le_refl _) (by decide)) (by simp [Value.oneCell']) (N := i + 1) (by simp) (by omega) (by have := HLe.out; simp; omega) ?_; intro A5 c5 w5 hap; have HT5 := Lib.hid ((HT.out.drew.alloc (.cells #[.int .i64 x] 3)).putA (by omega) hap); have HR5 := Lib.hid ((HT.out.drew.alloc (.cells #[.int .i64 x] 3)).farA hap ((show Cel (World.drew _) _ _ _ from HR.out).alloc (.cells #[.int .i64 x] 3)) (by omega) (.slice A5 (i + 1) c5) 0); have cy := (HT.out.drew.alloc (.cells #[.int .i64 x] 3)).midA hap; have q5 := cy.cell 0 _ rfl; have f5 := cy.frozen 0; have hg5 := hap.grown.size; clear hap cy)
      all_goals (
        have HLe5 := Lib.hid (show w.heap.size + 1 + 1 ≤ (w5.setCell ⟨w.heap.size + 1, 0, none⟩ (.slice A5 (i + 1) c5)).heap.size by have := HLe.out; simp at hg5 ⊢; omega)
        have HW5 := Lib.hid (HT5.out.below)
        clear q5 f5 hg5 z0 f0 g1' z0a
        generalize w5.setCell ⟨w.heap.size + 1, 0, none⟩ (.slice A5 (i + 1) c5) = W5 at *
        have g2 := below_cell HW5.out (hce _ _ (livesV_get hlt (t := 3) rfl)) 
        replace g2 : W5.cell? ⟨b, o + i * 4 + 3, none⟩ = some (.int .i64 y) := by rw [← HYe.out]; exact g2
        have z1 := HT5.out.cel.cell 1 (.slice Ab i cb) rfl
        have f1 := HT5.out.cel.frozen 1
        have z1a := (HT5.out.cel.alloc (.cells #[.int .i64 y] 3)).cell 1 (.slice Ab i cb) rfl
        clear g2' hce
        go_upto_region 6 with fail
        go_region_law (refine stepInt (.tmp 22) (.tmp 28) rfl rfl (by rfl) (by rfl) (HT5.out.drew.alloc (.cells #[.int .i64 y] 3)).b (Sl.new (s := 1) _ 3 1 1 #[.int .i64 y] rfl (Nat.le_refl _) (by decide)) (by simp [Value.oneCell']) (N := i + 1) (by simp) (by omega) (by have := HLe5.out; simp; omega) ?_; intro A6 c6 w6 hap; have HT6 := Lib.hid ((HT5.out.drew.alloc (.cells #[.int .i64 y] 3)).putB (by omega) hap); have HR6 := Lib.hid ((HT5.out.drew.alloc (.cells #[.int .i64 y] 3)).farB hap ((show Cel (World.drew _) _ _ _ from HR5.out).alloc (.cells #[.int .i64 y] 3)) (by omega) (.slice A6 (i + 1) c6) 1); have cy := (HT5.out.drew.alloc (.cells #[.int .i64 y] 3)).midB hap; have q6 := cy.cell 1 _ rfl; have f6 := cy.frozen 1; have hg6 := hap.grown.size; clear hap cy)
        all_goals (
          have HLe6 := Lib.hid (show w.heap.size + 1 + 1 ≤ (w6.setCell ⟨w.heap.size + 1, 1, none⟩ (.slice A6 (i + 1) c6)).heap.size by have := HLe5.out; simp at hg6 ⊢; omega)
          clear q6 f6 hg6 z1 f1 g2 z1a
          generalize w6.setCell ⟨w.heap.size + 1, 1, none⟩ (.slice A6 (i + 1) c6) = W6 at *
          go_wp2
          go_roundw
          case rel => exact ⟨i + 1, .slice A5 (i + 1) c5, .slice A6 (i + 1) c6, by go_num, by omega, by rw [HX.out, HYy.out]; exact HT6.out, HR6.out, HLe6.out⟩
          case measure => simp [intOf]; omega))
    · have hin : i = n := by omega
      have HIn := Lib.hid hin
      clear hin hi
      obtain ⟨Aa, ca, rfl, _⟩ := own_shape HT.out.a
      obtain ⟨Ab, cb, rfl, _⟩ := own_shape HT.out.b
      have z0 := HT.out.cel.cell 0 _ rfl
      have z1 := HT.out.cel.cell 1 _ rfl
      have r0 := HR.out.cell 0 _ rfl
      have r1 := HR.out.cell 1 _ rfl
      have f0 := HR.out.frozen 0
      have f1 := HR.out.frozen 1
      go_wp2
      have hA := own_ne (own_ne HT.out.a (p := ⟨w.heap.size, 0, none⟩) (fun e => by have := own_ge HT.out.a e; simp at this; omega) (.slice Aa i ca)) (p := ⟨w.heap.size, 1, none⟩) (fun e => by have := own_ge HT.out.a e; simp at this; omega) (.slice Ab i cb)
      have hB := own_ne (own_ne HT.out.b (p := ⟨w.heap.size, 0, none⟩) (fun e => by have := own_ge HT.out.b e; simp at this; omega) (.slice Aa i ca)) (p := ⟨w.heap.size, 1, none⟩) (fun e => by have := own_ge HT.out.b e; simp at this; omega) (.slice Ab i cb)
      have k := HR.out.set2 (.slice Aa i ca) (.slice Ab i cb)
      have k0 := k.cell 0 _ rfl
      have k1 := k.cell 1 _ rfl
      have hS1 := Sl.of_own hA
      have hS2 := Sl.of_own hB
      exact bodyPost_ret (v := .agg #[.slice Aa i ca, .slice Ab i cb]) (by simp [results, Tryd.results29, go_sem, k0, k1]) rfl ⟨_, _, rfl, by rw [← HIn.out]; exact hS1, by rw [← HIn.out]; exact hS2, (HT.out.below.setCell (p := ⟨w.heap.size, 0, none⟩) (by simp) _).setCell (p := ⟨w.heap.size, 1, none⟩) (by simp) _⟩
end
end Go.Proofs.YtdmcopjbckelmaaDoor
