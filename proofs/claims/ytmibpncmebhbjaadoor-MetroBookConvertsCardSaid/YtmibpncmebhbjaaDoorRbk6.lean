/- The reference's book: the error of a bridge. -/
import Derived.Test.YtmibpncmebhbjaaDoorRbk5
namespace Go.Proofs.YtmibpncmebhbjaaDoor
open Go Go.RowKit Go.Shelf
attribute [local go_sem] Oper.semAt_some

theorem sgnI_neg {s : ByteArray} {us : List Un} (h : sgnI s us < 0) : sgnI s us = -1 := by
  unfold sgnI at *
  split at h
  · omega
  · rfl
theorem fr_new (w : World) : FrP (w.alloc (.cells #[.bool false, .slice none 0 0, .slice none 0 0] 150)) w.heap.size w.heap.size false (.slice none 0 0) (.slice none 0 0) [] [] :=
  ⟨Cel.new w _ _, Nat.le_refl _, World.ownsRow_nil _ _ _ _, World.ownsRow_nil _ _ _ _, fun g h => by simp [Value.ownBlock] at h⟩

set_option maxRecDepth 100000 in
set_option maxHeartbeats 4000000 in
set_option linter.unusedSimpArgs false in
theorem wrong_any (Bk : Nat) (lv bv : Value) (st : St) (bs : List Br) (b : Br) (w : World) (h : RBk w Bk lv bv st.ls bs) (hg : Good st) (hbs : bs.length ≤ 64) (hok : ∀ x ∈ bs, brE st x = 0) (hs : SpS st (bs.map (edOf st))) :
    Calls Tryd.prog 108 #[.pointer (some ⟨Bk, 0, none⟩), .agg #[.string b.A, .string b.SA, .string b.B, .string b.SB, .int .i64 b.N, .int .i64 b.D]] w fun e w' => e = .returned (.int .i64 (bridgeF st b).1) ∧ Below w.heap.size w w' := by
  obtain ⟨A, c, rfl, hlc, hcm, hlk⟩ := h.lads.open
  have q0 := h.blk.cell 0 (.slice A st.ls.length c) rfl
  have HA : Hid (∀ W, Below w.heap.size w W → Calls Tryd.prog 107 #[.pointer (some ⟨Bk, 0, none⟩), .string b.A] W fun e w' => e = .returned (.int .i64 (atI st.ls b.A)) ∧ W = w') := fun W hw =>
    at_any Bk _ _ st.ls b.A W (h.below hw).blk (h.below hw).lads hg.few
  have HA2 : Hid (∀ W, Below w.heap.size w W → Calls Tryd.prog 107 #[.pointer (some ⟨Bk, 0, none⟩), .string b.B] W fun e w' => e = .returned (.int .i64 (atI st.ls b.B)) ∧ W = w') := fun W hw =>
    at_any Bk _ _ st.ls b.B W (h.below hw).blk (h.below hw).lads hg.few
  have HR := Lib.hid h
  have HG := Lib.hid hg
  have HOK := Lib.hid hok
  have HSP := Lib.hid hs
  have HLK := Lib.hid hlk
  have HEN := Lib.hid (fun hh => bridgeF_none (st := st) (b := b) hh)
  have HEU := Lib.hid (fun h1 h2 hh => bridgeF_unit (st := st) (b := b) hg h1 h2 hh)
  have HEA := Lib.hid (fun h1 h2 h3 h4 hh => bridgeF_arg (st := st) (b := b) hg h1 h2 h3 h4 hh)
  have HE0 := Lib.hid (fun h1 h2 h3 h4 h5 h6 => brE_good (st := st) (b := b) hg h1 h2 h3 h4 h5 h6)
  have HEP := Lib.hid (fun hb hn => bridgeF_apart (st := st) (b := b) hs hb hn)
  have HEQ := Lib.hid (fun l hb hp => bridgeF_path (st := st) (b := b) (l := l) hs hb hp)
  have Y := Cel.new w 83 #[.string b.A, .string b.SA, .string b.B, .string b.SB, .int .i64 b.N, .int .i64 b.D]
  have hB0 := below_alloc' w (.cells #[.string b.A, .string b.SA, .string b.B, .string b.SB, .int .i64 b.N, .int .i64 b.D] 83)
  have bN := b.hN
  have bD := b.hD
  obtain ⟨ER, hER⟩ : ∃ ER, (bridgeF st b).1 = ER := ⟨_, rfl⟩
  have HER := Lib.hid hER
  rw [hER]
  clear h hg hok hs hlk hER
  go_enter Tryd.func108, Tryd.ntmps108
  go_upto_region 1 with fail
  obtain ⟨W, hW⟩ : ∃ W, w.alloc (.cells #[.string b.A, .string b.SA, .string b.B, .string b.SB, .int .i64 b.N, .int .i64 b.D] 83) = W := ⟨_, rfl⟩
  rw [hW] at Y hB0 ⊢
  have g0 := Y.cell 0 (.string b.A) rfl
  have g2 := Y.cell 2 (.string b.B) rfl
  have HBW := Lib.hid hB0
  go_quiet ((first | (go_at_call_of 107 (Value.string b.A); exact quiet_left (HA.out _ (below_drewN HBW.out _))) | (go_at_call_of 107 (Value.string b.B); exact quiet_left (HA2.out _ (below_drewN HBW.out _)))))
  have HB := Lib.hid (below_drewN HBW.out nq)
  have HY := Lib.hid (Y.below Y.lt (below_drewN' W nq))
  obtain ⟨V, hV⟩ : ∃ V, W.drewN nq = V := ⟨_, rfl⟩
  rw [hV] at HB HY ⊢
  clear hV hW Y hB0 g0 g2 HBW HA HA2 q0
  by_cases e1 : idxE st.ls b.A = 0
  · by_cases e2 : idxE st.ls b.B = 0
    · have hI : brI st b < st.ls.length := idxI_lt e1
      have hJ : brJ st b < st.ls.length := idxI_lt e2
      rw [atI_yes e1, atI_yes e2]
      have d1 : decide (((idxI st.ls b.A : Nat) : Int) < 0) = false := decide_eq_false (by omega)
      have d2 : decide (((idxI st.ls b.B : Nat) : Int) < 0) = false := decide_eq_false (by omega)
      have HU := Lib.hid (HEU.out e1 e2)
      have HAA := Lib.hid (HEA.out e1 e2)
      have HZZ := Lib.hid (HE0.out e1 e2)
      clear HEU HEA HE0 HEN
      obtain ⟨lb, lo, AX, cX, eX, _, x0, x1, hsX⟩ := HLK.out _ hI
      subst eX
      obtain ⟨lb', lo', AY, cY, eY, _, y0, y1, hsY⟩ := HLK.out _ hJ
      cases eY
      rw [show st.ls[brI st b].nm = (ladOf st (brI st b)).1 by rw [ladOf_lt hI]] at x0
      rw [show st.ls[brI st b].us = (ladOf st (brI st b)).2 by rw [ladOf_lt hI]] at x1 hsX
      rw [show st.ls[brJ st b].nm = (ladOf st (brJ st b)).1 by rw [ladOf_lt hJ]] at y0
      rw [show st.ls[brJ st b].us = (ladOf st (brJ st b)).2 by rw [ladOf_lt hJ]] at y1 hsY
      have KSA : Hid (∀ W, Below V.heap.size V W → Calls Tryd.prog 95 #[.agg #[.string (ladOf st (brI st b)).1, .slice AX (ladOf st (brI st b)).2.length cX], .string b.SA] W fun e w' => e = .returned (.int .i64 (sgnI b.SA (ladOf st (brI st b)).2)) ∧ Below W.heap.size W w') := fun W hw => signAt_any _ AX cX _ b.SA W (hsX.below (below_then HB.out hw))
      have KSB : Hid (∀ W, Below V.heap.size V W → Calls Tryd.prog 95 #[.agg #[.string (ladOf st (brJ st b)).1, .slice AY (ladOf st (brJ st b)).2.length cY], .string b.SB] W fun e w' => e = .returned (.int .i64 (sgnI b.SB (ladOf st (brJ st b)).2)) ∧ Below W.heap.size W w') := fun W hw => signAt_any _ AY cY _ b.SB W (hsY.below (below_then HB.out hw))
      have HII := Lib.hid (show idxI st.ls b.A = brI st b ∧ idxI st.ls b.B = brJ st b from ⟨rfl, rfl⟩)
      have hI1 : (0 : Int) ≤ (brI st b : Int) := by omega
      have hJ1 : (0 : Int) ≤ (brJ st b : Int) := by omega
      have hI2 : (brI st b : Int) < (st.ls.length : Int) := by omega
      have hJ2 : (brJ st b : Int) < (st.ls.length : Int) := by omega
      rw [HII.out.1] at d1 ⊢
      rw [HII.out.2] at d2 ⊢
      generalize (ladOf st (brI st b)).1 = nX at *
      generalize (ladOf st (brI st b)).2 = uX at *
      generalize (ladOf st (brJ st b)).1 = nY at *
      generalize (ladOf st (brJ st b)).2 = uY at *
      obtain ⟨i1, hi1⟩ : ∃ i, brI st b = i := ⟨_, rfl⟩
      obtain ⟨i2, hi2⟩ : ∃ i, brJ st b = i := ⟨_, rfl⟩
      have HI1 := Lib.hid hi1
      have HI2 := Lib.hid hi2
      rw [hi1] at x0 x1 hI1 hI2 d1 ⊢
      rw [hi2] at y0 y1 hJ1 hJ2 d2 ⊢
      have HM1 := Lib.hid (fun (h : sgnI b.SA uX < 0) => sgnI_neg h)
      generalize sgnI b.SA uX = zA at *
      generalize sgnI b.SB uY = zB at *
      clear e1 e2 hI hJ hi1 hi2 hsX hsY HII
      have HEX : Hid (∀ w', Below V.heap.size V w' → w'.cell? ⟨Bk, 0, none⟩ = some (.slice (some ⟨lb, lo, none⟩) st.ls.length c) ∧ w'.cell? ⟨lb, lo + i1 * 2, none⟩ = some (.string nX) ∧ w'.cell? ⟨lb, lo + i1 * 2 + 1, none⟩ = some (.slice AX uX.length cX) ∧ w'.cell? ⟨lb, lo + i2 * 2, none⟩ = some (.string nY) ∧ w'.cell? ⟨lb, lo + i2 * 2 + 1, none⟩ = some (.slice AY uY.length cY) ∧ w'.cell? ⟨w.heap.size, 1, none⟩ = some (.string b.SA) ∧ w'.cell? ⟨w.heap.size, 3, none⟩ = some (.string b.SB)) := fun w' hb => by
        have h1 := HY.out.below HY.out.lt hb
        have h2 := below_then HB.out hb
        exact ⟨(HR.out.below h2).blk.cell 0 _ rfl, below_cell h2 x0, below_cell h2 x1, below_cell h2 y0, below_cell h2 y1, h1.cell 1 _ rfl, h1.cell 3 _ rfl⟩
      obtain ⟨g0, g1, g2, g3, g4, g5, g6⟩ := HEX.out V (Below.refl _ _)
      have hV0 := Lib.hid (Below.refl V.heap.size V)
      clear x0 x1 y0 y1
      go_upto_region 4 with fail
      go_cut [25] (fun t wx => ∃ (Wx : World) (q : Bool), Wx = wx ∧ t = .bool q ∧ Below V.heap.size V wx ∧ Hid (q = true ↔ (zA < 0 ∨ zB < 0)))
      case first =>
        by_cases hA : zA < 0
        · have hz := HM1.out hA
          subst hz
          clear hA
          refine wp_region_held_drew (S := fun w' => Below V.heap.size V w') (by kernel_rfl) (below_drew hV0.out) (fun hHeld => ?_)
          refine wpAnyH_take (i := 0) (v := ?_) rfl (by kernel_rfl) (by kernel_rfl) (by kernel_rfl) (fun _ _ _ h => h) (Or.inl ⟨by rfl, ?_⟩) (by assumption) ?_
          rotate_left
          · intro w' hSw
            go_simp <;> with_reducible rfl
          try simp only [Act.put, List.setIfInBounds_toArray, List.set_cons_zero, List.set_cons_succ]
          refine wpAnyH_take (i := 1) (v := ?_) rfl (by kernel_rfl) (by kernel_rfl) (by kernel_rfl) (fun _ _ _ h => h) (Or.inl ⟨by rfl, ?_⟩) (by assumption) ?_
          rotate_left
          · intro w' hSw
            go_simp <;> with_reducible rfl
          try simp only [Act.put, List.setIfInBounds_toArray, List.set_cons_zero, List.set_cons_succ]
          refine wpAnyH_take (i := 2) (v := ?_) rfl (by kernel_rfl) (by kernel_rfl) (by kernel_rfl) (fun _ _ _ h => h) (Or.inl ⟨by rfl, ?_⟩) (by assumption) ?_
          rotate_left
          · intro w' hSw
            go_simp <;> with_reducible rfl
          try simp only [Act.put, List.setIfInBounds_toArray, List.set_cons_zero, List.set_cons_succ]
          refine wpAnyH_take (i := 3) (v := ?_) rfl (by kernel_rfl) (by kernel_rfl) (by kernel_rfl) (fun _ _ _ h => h) (Or.inl ⟨by rfl, ?_⟩) (by assumption) ?_
          rotate_left
          · intro w' hSw
            obtain ⟨g0, g1, g2, g3, g4, g5, g6⟩ := HEX.out w' hSw
            go_simp <;> with_reducible rfl
          try simp only [Act.put, List.setIfInBounds_toArray, List.set_cons_zero, List.set_cons_succ]
          refine wpAnyH_take (i := 4) (v := ?_) rfl (by kernel_rfl) (by kernel_rfl) (by kernel_rfl) (fun _ _ _ h => h) (Or.inl ⟨by rfl, ?_⟩) (by assumption) ?_
          rotate_left
          · intro w' hSw
            go_simp <;> with_reducible rfl
          try simp only [Act.put, List.setIfInBounds_toArray, List.set_cons_zero, List.set_cons_succ]
          refine wpAnyH_take (i := 5) (v := ?_) rfl (by kernel_rfl) (by kernel_rfl) (by kernel_rfl) (fun _ _ _ h => h) (Or.inl ⟨by rfl, ?_⟩) (by assumption) ?_
          rotate_left
          · intro w' hSw
            obtain ⟨g0, g1, g2, g3, g4, g5, g6⟩ := HEX.out w' hSw
            go_simp <;> with_reducible rfl
          try simp only [Act.put, List.setIfInBounds_toArray, List.set_cons_zero, List.set_cons_succ]
          refine wpAnyH_take (i := 6) (v := ?_) rfl (by kernel_rfl) (by kernel_rfl) (by kernel_rfl) (fun _ _ _ h => h) (Or.inl ⟨by rfl, ?_⟩) (by assumption) ?_
          rotate_left
          · intro w' hSw
            obtain ⟨g0, g1, g2, g3, g4, g5, g6⟩ := HEX.out w' hSw
            go_simp <;> with_reducible rfl
          try simp only [Act.put, List.setIfInBounds_toArray, List.set_cons_zero, List.set_cons_succ]
          refine wpAnyH_take (i := 7) (v := ?_) rfl (by kernel_rfl) (by kernel_rfl) (by kernel_rfl) (fun _ _ _ h => h) (Or.inl ⟨by rfl, ?_⟩) (by assumption) ?_
          rotate_left
          · intro w' hSw
            go_simp <;> with_reducible rfl
          try simp only [Act.put, List.setIfInBounds_toArray, List.set_cons_zero, List.set_cons_succ]
          refine wpAnyH_take (i := 8) (v := ?_) rfl (by kernel_rfl) (by kernel_rfl) (by kernel_rfl) (fun _ _ _ h => h) (Or.inl ⟨by rfl, ?_⟩) (by assumption) ?_
          rotate_left
          · intro w' hSw
            obtain ⟨g0, g1, g2, g3, g4, g5, g6⟩ := HEX.out w' hSw
            go_simp <;> with_reducible rfl
          try simp only [Act.put, List.setIfInBounds_toArray, List.set_cons_zero, List.set_cons_succ]
          refine wpAnyH_ready (rs := [9]) (by kernel_rfl) (by simp) ?_
          refine AllReadyH.cons (o := _) rfl (fun K hK => ?_) AllReadyH.nil
          go_simp
          go_at_call 95
          refine (KSA.out V.drew (below_drew hV0.out)).mono ?_
          rintro e w1 ⟨rfl, hb1⟩
          have HB1 := Lib.hid (below_then (below_drew hV0.out) hb1)
          clear hb1
          refine hK.out _ _ HB1.out (fun hHeld1 => ?_)
          clear hK K
          try simp only [Act.put, List.setIfInBounds_toArray, List.set_cons_zero, List.set_cons_succ]
          refine wpAnyH_take (i := 10) (v := ?_) rfl (by kernel_rfl) (by kernel_rfl) (by kernel_rfl) (fun _ _ _ h => h) (Or.inl ⟨by rfl, ?_⟩) (by assumption) ?_
          rotate_left
          · intro w' hSw
            go_simp <;> with_reducible rfl
          try simp only [Act.put, List.setIfInBounds_toArray, List.set_cons_zero, List.set_cons_succ]
          refine wpAnyH_take (i := 11) (v := ?_) rfl (by kernel_rfl) (by kernel_rfl) (by kernel_rfl) (fun _ _ _ h => h) (Or.inl ⟨by rfl, ?_⟩) (by assumption) ?_
          rotate_left
          · intro w' hSw
            go_simp <;> with_reducible rfl
          try simp only [Act.put, List.setIfInBounds_toArray, List.set_cons_zero, List.set_cons_succ]
          refine wpAnyH_take (i := 12) rfl (by kernel_rfl) (by kernel_rfl) (by kernel_rfl) (fun _ _ _ h => h) (Or.inr ⟨by kernel_rfl, rfl⟩) (by assumption) ?_
          try simp only [Act.put, List.setIfInBounds_toArray, List.set_cons_zero, List.set_cons_succ]
          refine wpAnyH_take (i := 13) rfl (by kernel_rfl) (by kernel_rfl) (by kernel_rfl) (fun _ _ _ h => h) (Or.inr ⟨by kernel_rfl, rfl⟩) (by assumption) ?_
          try simp only [Act.put, List.setIfInBounds_toArray, List.set_cons_zero, List.set_cons_succ]
          refine wpAnyH_take (i := 14) rfl (by kernel_rfl) (by kernel_rfl) (by kernel_rfl) (fun _ _ _ h => h) (Or.inr ⟨by kernel_rfl, rfl⟩) (by assumption) ?_
          try simp only [Act.put, List.setIfInBounds_toArray, List.set_cons_zero, List.set_cons_succ]
          refine wpAnyH_take (i := 15) rfl (by kernel_rfl) (by kernel_rfl) (by kernel_rfl) (fun _ _ _ h => h) (Or.inr ⟨by kernel_rfl, rfl⟩) (by assumption) ?_
          try simp only [Act.put, List.setIfInBounds_toArray, List.set_cons_zero, List.set_cons_succ]
          refine wpAnyH_take (i := 16) rfl (by kernel_rfl) (by kernel_rfl) (by kernel_rfl) (fun _ _ _ h => h) (Or.inr ⟨by kernel_rfl, rfl⟩) (by assumption) ?_
          try simp only [Act.put, List.setIfInBounds_toArray, List.set_cons_zero, List.set_cons_succ]
          refine wpAnyH_take (i := 17) rfl (by kernel_rfl) (by kernel_rfl) (by kernel_rfl) (fun _ _ _ h => h) (Or.inr ⟨by kernel_rfl, rfl⟩) (by assumption) ?_
          try simp only [Act.put, List.setIfInBounds_toArray, List.set_cons_zero, List.set_cons_succ]
          refine wpAnyH_take (i := 18) rfl (by kernel_rfl) (by kernel_rfl) (by kernel_rfl) (fun _ _ _ h => h) (Or.inr ⟨by kernel_rfl, rfl⟩) (by assumption) ?_
          try simp only [Act.put, List.setIfInBounds_toArray, List.set_cons_zero, List.set_cons_succ]
          refine wpAnyH_take (i := 19) rfl (by kernel_rfl) (by kernel_rfl) (by kernel_rfl) (fun _ _ _ h => h) (Or.inr ⟨by kernel_rfl, rfl⟩) (by assumption) ?_
          try simp only [Act.put, List.setIfInBounds_toArray, List.set_cons_zero, List.set_cons_succ]
          refine wpAnyH_take (i := 20) rfl (by kernel_rfl) (by kernel_rfl) (by kernel_rfl) (fun _ _ _ h => h) (Or.inr ⟨by kernel_rfl, rfl⟩) (by assumption) ?_
          try simp only [Act.put, List.setIfInBounds_toArray, List.set_cons_zero, List.set_cons_succ]
          refine wpAnyH_take (i := 21) rfl (by kernel_rfl) (by kernel_rfl) (by kernel_rfl) (fun _ _ _ h => h) (Or.inr ⟨by kernel_rfl, rfl⟩) (by assumption) ?_
          try simp only [Act.put, List.setIfInBounds_toArray, List.set_cons_zero, List.set_cons_succ]
          refine wpAnyH_take (i := 22) rfl (by kernel_rfl) (by kernel_rfl) (by kernel_rfl) (fun _ _ _ h => h) (Or.inr ⟨by kernel_rfl, rfl⟩) (by assumption) ?_
          try simp only [Act.put, List.setIfInBounds_toArray, List.set_cons_zero, List.set_cons_succ]
          refine wpAnyH_take (i := 23) (v := ?_) rfl (by kernel_rfl) (by kernel_rfl) (by kernel_rfl) (fun _ _ _ h => h) (Or.inl ⟨by rfl, ?_⟩) (by assumption) ?_
          rotate_left
          · intro w' hSw
            go_simp <;> with_reducible rfl
          try simp only [Act.put, List.setIfInBounds_toArray, List.set_cons_zero, List.set_cons_succ]
          refine wpAnyH_take (i := 24) (v := ?_) rfl (by kernel_rfl) (by kernel_rfl) (by kernel_rfl) (fun _ _ _ h => h) (Or.inl ⟨by rfl, ?_⟩) (by assumption) ?_
          rotate_left
          · intro w' hSw
            go_simp <;> with_reducible rfl
          try simp only [Act.put, List.setIfInBounds_toArray, List.set_cons_zero, List.set_cons_succ]
          refine wpAnyH_done (by kernel_rfl) ?_ _
          go_wp2
          go_meet
          exact ⟨_, true, rfl, rfl, HB1.out, ⟨fun _ => .inl (by decide), fun _ => rfl⟩⟩
        · have dA : decide (zA < 0) = false := decide_eq_false hA
          have HQ := Lib.hid hA
          clear hA
          obtain ⟨q, hq⟩ : ∃ q, decide (zB < 0) = q := ⟨_, rfl⟩
          have HQ2 : Hid (q = true ↔ (zA < 0 ∨ zB < 0)) := by
            constructor
            · intro e; rw [e] at hq; exact .inr (of_decide_eq_true hq)
            · intro e; rw [← hq]; rcases e with e | e
              · have := HQ.out; omega
              · exact decide_eq_true e
          go_region_held3 (fun w' => w'.cell? ⟨Bk, 0, none⟩ = some (.slice (some ⟨lb, lo, none⟩) st.ls.length c) ∧ w'.cell? ⟨lb, lo + i1 * 2, none⟩ = some (.string nX) ∧ w'.cell? ⟨lb, lo + i1 * 2 + 1, none⟩ = some (.slice AX uX.length cX) ∧ w'.cell? ⟨lb, lo + i2 * 2, none⟩ = some (.string nY) ∧ w'.cell? ⟨lb, lo + i2 * 2 + 1, none⟩ = some (.slice AY uY.length cY) ∧ w'.cell? ⟨w.heap.size, 1, none⟩ = some (.string b.SA) ∧ w'.cell? ⟨w.heap.size, 3, none⟩ = some (.string b.SB))
            (first | exact ⟨g0, g1, g2, g3, g4, g5, g6⟩ | exact HEX.out _ (by (repeat (first | exact hV0.out | exact HB1.out | exact HB2.out | refine below_drew ?_)); done) | go_keep)
            (first
            | (go_at_call_of 95 (Value.string b.SA); refine (KSA.out V.drew (below_drew hV0.out)).mono ?_; rintro e w1 ⟨rfl, hb1⟩; have HB1 := Lib.hid (below_then (below_drew hV0.out) hb1); clear hb1)
            | (go_at_call_of 95 (Value.string b.SB); refine (KSB.out w1 HB1.out).mono ?_; rintro e w2 ⟨rfl, hb2⟩; have HB2 := Lib.hid (below_then HB1.out hb2); clear hb2))
          all_goals (
            go_wp2
            go_meet
            exact ⟨_, q, rfl, rfl, HB2.out, HQ2.out⟩)
      case rest =>
        obtain ⟨Wx, q, rfl, rfl, hbx, HQ⟩ := hcut
        have HB2 := Lib.hid (below_then HB.out hbx)
        have HY2 := Lib.hid (HY.out.below HY.out.lt hbx)
        clear g0 g1 g2 g3 g4 g5 g6 HEX KSA KSB hV0 HB HY hbx
        cases q with
        | true =>
          have HX := Lib.hid (HU.out (HQ.out.1 rfl))
          go_wp2
          go_ret
          exact ⟨by rw [← HER.out, HX.out] <;> rfl, HB2.out⟩
        | false =>
          have HNA : Hid (¬ zA < 0) := fun e => by have := HQ.out.2 (.inl e); cases this
          have HNB : Hid (¬ zB < 0) := fun e => by have := HQ.out.2 (.inr e); cases this
          have m4 := HY2.out.cell 4 (.int .i64 b.N) rfl
          have m5 := HY2.out.cell 5 (.int .i64 b.D) rfl
          go_wp2_with fail
          go_fit (risRatio_any b.N b.D Wx bN.1 bN.2 bD.1 bD.2)
          rintro e w1 ⟨rfl, hb1⟩
          have HB3 := Lib.hid (below_then HB2.out hb1)
          have HY3 := Lib.hid (HY2.out.below HY2.out.lt hb1)
          have n4 := HY3.out.cell 4 (.int .i64 b.N) rfl
          clear hb1 m4 m5 HB2 HY2
          by_cases hr : isR b.N b.D = true ∧ 0 < b.N
          · have d3 : decide (b.N ≤ 0) = false := decide_eq_false (by omega)
            have HZ0 := Lib.hid (HZZ.out HNA.out HNB.out hr.1 hr.2)
            rw [hr.1]
            clear hr
            have hw := way_any Bk _ bv st bs i1 i2 w1 (HR.out.below HB3.out) HG.out.few hbs HOK.out (by omega)
            go_wp2_with fail
            go_fit hw
            intro e w2 hpost
            clear hw
            obtain ⟨hb2, hpost⟩ := hpost
            have HB4 := Lib.hid (below_then HB3.out hb2)
            have HY4 := Lib.hid (HY3.out.below HY3.out.lt hb2)
            clear hb2 n4 HB3 HY3
            rcases hpost with ⟨l, vl, rfl, hsl, hp, hlen⟩ | ⟨rfl, hn⟩
            · have HP := Lib.hid hp
              have HLT : Hid (∀ s ∈ l, s.1 < bs.length) := fun s hs => by have := hp.lt s hs; simpa using this
              have HE := Lib.hid (HEQ.out l HZ0.out (by rw [HI1.out, HI2.out]; exact hp))
              have hl32 : l.length ≤ 32 := by have := HG.out.few; omega
              have KAL := falong_any Bk _ bv st bs l vl w2.heap.size w2.heap.size false [] [] w2 (w2.alloc (.cells #[.bool false, .slice none 0 0, .slice none 0 0] 150)) (HR.out.below HB4.out) (below_alloc' _ _) (Nat.le_refl _) HG.out HOK.out (fr_new w2).fro (by simp) (hsl.below (below_alloc' _ _)) HLT.out (by simp) (by simp) (by omega)
              have HKA := Lib.hid KAL
              obtain ⟨VA, vn, vc, rfl, _⟩ := hsl.1.shape
              have HY5 := Lib.hid (HY4.out.alloc (.cells #[.bool false, .slice none 0 0, .slice none 0 0] 150))
              have HB5 := Lib.hid (HB4.out.alloc HB4.out.size (.cells #[.bool false, .slice none 0 0, .slice none 0 0] 150))
              have hz2 := HB4.out.size
              clear KAL hsl hp hlen HB4 HY4
              go_wp2_with fail
              go_fit HKA.out
              rintro e w4 ⟨rfl, hF4, hK4, hB4⟩
              have HY6 := Lib.hid (hK4 _ _ _ HY5.out (by decide) (by decide))
              have HF4 := Lib.hid hF4
              have HB6 := Lib.hid (HB5.out.trans (hB4.mono hz2))
              have hz4 := hB4.size
              simp only [World.size_alloc] at hz4
              have o0 := HY6.out.cell 0 (.string b.A) rfl
              have o1 := HY6.out.cell 1 (.string b.SA) rfl
              have o2 := HY6.out.cell 2 (.string b.B) rfl
              have o3 := HY6.out.cell 3 (.string b.SB) rfl
              have o4 := HY6.out.cell 4 (.int .i64 b.N) rfl
              have o5 := HY6.out.cell 5 (.int .i64 b.D) rfl
              have HPL := Lib.hid (pUp_len (st := st) (bs := bs) (l := l) HLT.out)
              have KB := rbridge_any Bk _ bv st bs b true w2.heap.size w2.heap.size false ([] ++ pUp st bs l) ([] ++ pDn st bs l) w4 (HR.out.below HB6.out) HG.out HZ0.out HF4.out (by omega) (by have := HPL.out.1; simp; omega) (by have := HPL.out.2; simp; omega)
              have HKB := Lib.hid KB
              clear KB hF4 hK4 hB4 HKA
              go_wp2_with fail
              go_fit HKB.out
              rintro e w5 ⟨rfl, hF5, _, hB5⟩
              have HB7 := Lib.hid (HB6.out.trans (hB5.mono hz2))
              have HON := Lib.hid (pUp_ones (st := st) (bs := bs) (l := l) HOK.out)
              have HOB := Lib.hid (br_ones (st := st) (b := b) HZ0.out true)
              have KO := fone_any w2.heap.size w2.heap.size false _ _ w5 hF5 (Ones.app (Ones.app Ones.nil HON.out.1) HOB.out.1) (Ones.app (Ones.app Ones.nil HON.out.2) HOB.out.2) (by have := HPL.out; have := brUp_len st b true; simp; omega)
              have HVL := Lib.hid (show val (([] ++ pUp st bs l) ++ brUp st b true) (([] ++ pDn st bs l) ++ brDn st b true) = pathQ (bs.map (edOf st)) l * (brOwn st b)⁻¹ by
                rw [val_append (Ones.app Ones.nil HON.out.2) HOB.out.2, List.nil_append, List.nil_append, pUp_val HOK.out HLT.out, br_val HZ0.out]; rfl)
              rw [HVL.out] at KO
              have hz5 := hB5.size
              have HKO := Lib.hid KO
              have HLE5 := Lib.hid (show w.heap.size ≤ w2.heap.size by omega)
              clear KO hF5 hB5 HKB o0 o1 o2 o3 o4 o5
              go_wp2_with fail
              go_fit HKO.out
              rintro e w6 ⟨rfl, hB6⟩
              have HB8 := Lib.hid (HB7.out.trans (hB6.mono HLE5.out))
              clear hB6 HKO
              cases hd : decide (pathQ (bs.map (edOf st)) l * (brOwn st b)⁻¹ = 1) with
              | true =>
                have HX := Lib.hid (show (bridgeF st b).1 = 0 by rw [HE.out, hd]; rfl)
                go_wp2
                go_ret
                exact ⟨by rw [← HER.out, HX.out] <;> rfl, HB8.out⟩
              | false =>
                have HX := Lib.hid (show (bridgeF st b).1 = 12 by rw [HE.out, hd]; rfl)
                go_wp2
                go_ret
                exact ⟨by rw [← HER.out, HX.out] <;> rfl, HB8.out⟩
            · have HX := Lib.hid (HEP.out HZ0.out (by rw [HI1.out, HI2.out]; exact hn))
              clear hn
              go_wp2
              go_ret
              exact ⟨by rw [← HER.out, HX.out] <;> rfl, HB4.out⟩
          · have HX := Lib.hid (HAA.out HNA.out HNB.out hr)
            cases hi : isR b.N b.D with
            | true =>
              have d3 : decide (b.N ≤ 0) = true := decide_eq_true (by
                rcases Int.lt_or_le 0 b.N with h | h
                · exact absurd ⟨hi, h⟩ hr
                · exact h)
              clear hr hi
              go_wp2
              go_ret
              exact ⟨by rw [← HER.out, HX.out] <;> rfl, HB3.out⟩
            | false =>
              clear hr hi
              go_wp2
              go_ret
              exact ⟨by rw [← HER.out, HX.out] <;> rfl, HB3.out⟩
    · have HX := Lib.hid (HEN.out (.inr e2))
      rw [(atI_no e2).1]
      have hd : decide (((-1 : Int)) < 0) = true := rfl
      by_cases h3 : atI st.ls b.A < 0
      · have d1 : decide (atI st.ls b.A < 0) = true := decide_eq_true h3
        clear e1 e2 h3
        generalize atI st.ls b.A = z at *
        go_wp2
        go_ret
        exact ⟨by rw [← HER.out, HX.out] <;> rfl, HB.out⟩
      · have d1 : decide (atI st.ls b.A < 0) = false := decide_eq_false h3
        clear e1 e2 h3
        generalize atI st.ls b.A = z at *
        go_wp2
        go_ret
        exact ⟨by rw [← HER.out, HX.out] <;> rfl, HB.out⟩
  · have HX := Lib.hid (HEN.out (.inl e1))
    rw [(atI_no e1).1]
    clear e1
    generalize atI st.ls b.B = z at *
    go_wp2
    go_ret
    exact ⟨by rw [← HER.out, HX.out] <;> rfl, HB.out⟩
end Go.Proofs.YtmibpncmebhbjaaDoor
