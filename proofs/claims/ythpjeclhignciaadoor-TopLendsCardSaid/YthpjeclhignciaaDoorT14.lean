/- Walks of the package ledger: opened, day, between, loan, checkLoan. Conditions: those stated; no payments. -/
import Derived.Test.YthpjeclhignciaaDoorT13
namespace Go.Proofs.YthpjeclhignciaaDoor
open Go Go.RowKit Go.Shelf
attribute [local go_sem] Oper.semAt_some rrV

set_option maxRecDepth 100000 in
set_option maxHeartbeats 1000000 in
theorem opened_any (x y : Value) (ks : List ByteArray) (ys : List Yr) (w : World) (hv : CalW w (.agg #[x, y]) ks ys) :
    Calls Tryd.prog 13 #[.agg #[x, y]] w fun e w' => e = .returned (.tuple #[.agg #[x, y], .int .i64 (chF ks ys [])]) ∧ Below w.heap.size w w' := by
  obtain ⟨Ak, nk, ck, Ay, ny, cy, e, _⟩ := hv.cal
  injection e with e
  injection e with e
  injection e with e1 e
  injection e with e2 e
  subst e1
  subst e2
  have hB0 : Below w.heap.size w ((w.alloc (.cells #[.slice Ak nk ck, .slice Ay ny cy] 25)).alloc (.cells #[.slice none 0 0, .slice none 0 0] 54)) := (below_alloc' _ _).alloc (by simp) _
  have Y0 := (Cel.new w 25 #[.slice Ak nk ck, .slice Ay ny cy]).alloc (.cells #[.slice none 0 0, .slice none 0 0] 54)
  have Y1 := Cel.new (w.alloc (.cells #[.slice Ak nk ck, .slice Ay ny cy] 25)) 54 #[.slice none 0 0, .slice none 0 0]
  simp only [World.size_alloc] at Y1
  have HV := Lib.hid (hv.below hB0)
  clear hv
  go_enter Tryd.func13, Tryd.ntmps13
  go_wp2
  obtain ⟨V, hV⟩ : ∃ V, (w.alloc (.cells #[.slice Ak nk ck, .slice Ay ny cy] 25)).alloc (.cells #[.slice none 0 0, .slice none 0 0] 54) = V := ⟨_, rfl⟩
  rw [hV] at Y0 Y1 hB0 HV ⊢
  clear hV
  have hVs : w.heap.size + 1 ≤ V.heap.size := by have := Y1.lt; omega
  have HX : Hid (∀ w', Below (w.heap.size + 1) V w' → w'.cell? ⟨w.heap.size, 0, none⟩ = some (.slice Ak nk ck) ∧ w'.cell? ⟨w.heap.size, 1, none⟩ = some (.slice Ay ny cy)) := fun w' hb => by
    have h1 := Y0.below (by omega) hb
    exact ⟨h1.cell 0 _ rfl, h1.cell 1 _ rfl⟩
  refine wp_region_held_drew (S := fun w' => Below (w.heap.size + 1) V w') (by kernel_rfl) (below_drew (Below.refl _ _)) (fun hHeld => ?_)
  refine wpAnyH_takeD (i := 0) (v := ?_) 4 rfl (by kernel_rfl) (by kernel_rfl) (by kernel_rfl) (fun _ _ _ h => h) (Or.inl ⟨by rfl, ?_⟩) (by assumption) rfl ?_
  rotate_left
  · intro w' hSw
    obtain ⟨c0, c1⟩ := HX.out w' hSw
    go_simp <;> with_reducible rfl
  simp only [List.setIfInBounds_toArray, List.set_cons_succ, List.set_cons_zero]
  refine wpAnyH_takeD (i := 1) (v := ?_) 5 rfl (by kernel_rfl) (by kernel_rfl) (by kernel_rfl) (fun _ _ _ h => h) (Or.inl ⟨by rfl, ?_⟩) (by assumption) rfl ?_
  rotate_left
  · intro w' hSw
    obtain ⟨c0, c1⟩ := HX.out w' hSw
    go_simp <;> with_reducible rfl
  simp only [List.setIfInBounds_toArray, List.set_cons_succ, List.set_cons_zero]
  refine wpAnyH_takeD (i := 2) (v := ?_) 6 rfl (by kernel_rfl) (by kernel_rfl) (by kernel_rfl) (fun _ _ _ h => h) (Or.inl ⟨by rfl, ?_⟩) (by assumption) rfl ?_
  rotate_left
  · intro w' hSw
    obtain ⟨c0, c1⟩ := HX.out w' hSw
    go_simp <;> with_reducible rfl
  simp only [List.setIfInBounds_toArray, List.set_cons_succ, List.set_cons_zero]
  refine wpAnyH_ready (rs := [3]) (by kernel_rfl) (by simp) ?_
  refine AllReadyH.cons (o := _) rfl (fun K hK => ?_) AllReadyH.nil
  go_simp
  go_at_call 28
  refine (check_any' _ ks ys _ (HV.out.below (below_drew (Below.refl _ _)))).mono ?_
  rintro e w1 ⟨rfl, hb1⟩
  have HB1 := Lib.hid (show Below V.heap.size V w1 from below_undrew hb1)
  clear hb1
  have T1 := Y1.below Y1.lt HB1.out
  have f0 := T1.frozen 0
  have f1 := T1.frozen 1
  have q0 := T1.cell 0 _ rfl
  have q1 := T1.cell 1 _ rfl
  refine hK.out _ _ (HB1.out.mono hVs) (fun hHeld1 => ?_)
  clear hK K
  refine wpAnyH_ready (rs := [4]) (by kernel_rfl) (by simp) ?_
  refine AllReadyH.cons (o := _) rfl (fun K hK => ?_) AllReadyH.nil
  go_simp
  refine hK.out _ _ (((HB1.out.mono hVs).setCell (p := ⟨w.heap.size + 1, 0, none⟩) (by simp) _).setCell (p := ⟨w.heap.size + 1, 1, none⟩) (by simp) _) (fun hHeld2 => ?_)
  clear hK K
  refine wpAnyH_takeD (i := 5) (v := ?_) 3 rfl (by kernel_rfl) (by kernel_rfl) (by kernel_rfl) (fun _ _ _ h => h) (Or.inl ⟨by rfl, ?_⟩) (by assumption) rfl ?_
  rotate_left
  · intro w' hSw
    obtain ⟨c0, c1⟩ := HX.out w' hSw
    go_simp <;> with_reducible rfl
  simp only [List.setIfInBounds_toArray, List.set_cons_succ, List.set_cons_zero]
  refine wpAnyH_done (by kernel_rfl) ?_ _
  have hB1 := hB0.trans (HB1.out.mono hB0.size)
  have U1 := (T1.setAt 0 (.slice Ak nk ck)).setAt 1 (.slice Ay ny cy)
  have r0 := U1.cell 0 _ rfl
  have r1 := U1.cell 1 _ rfl
  go_wp2
  exact bodyPost_ret (v := .tuple #[.agg #[.slice Ak nk ck, .slice Ay ny cy], .int .i64 (chF ks ys [])]) (by simp [results, Tryd.results13, go_sem, r0, r1]) rfl ⟨rfl, (hB1.setCell (p := ⟨w.heap.size + 1, 0, none⟩) (by simp) _).setCell (p := ⟨w.heap.size + 1, 1, none⟩) (by simp) _⟩

set_option maxRecDepth 100000 in
set_option maxHeartbeats 1000000 in
theorem day_yes (x y : Value) (ks : List ByteArray) (ys : List Yr) (d : Dt) (k : Nat) (m : Mo) (w : World) (hv : CalW w (.agg #[x, y]) ks ys) (hi : InC ks ys d k m) :
    Calls Tryd.prog 15 #[.agg #[x, y], dtA d] w fun e w' => e = .returned (.int .i64 (dayOf m d)) ∧ Below w.heap.size w w' := by
  have hn := fun w' (h : CalW w' (.agg #[x, y]) ks ys) => Number_yes (.agg #[x, y]) ks ys d k m w' h hi
  obtain ⟨Ak, nk, ck, Ay, ny, cy, e, _⟩ := hv.cal
  injection e with e
  injection e with e
  injection e with e1 e
  injection e with e2 e
  subst e1
  subst e2
  obtain ⟨dY, dM, dS, dD⟩ := d
  have hB0 : Below w.heap.size w ((w.alloc (.cells #[.slice Ak nk ck, .slice Ay ny cy] 54)).alloc (.cells #[.int .i64 dY, .int .i64 dM, .bool dS, .int .i64 dD] 29)) := (below_alloc' _ _).alloc (by simp) _
  have HN := Lib.hid (hn _ (hv.below hB0))
  clear hn hv hi
  simp only [dtA] at HN ⊢
  generalize dayOf m ⟨dY, dM, dS, dD⟩ = dn at *
  go_enter Tryd.func15, Tryd.ntmps15
  go_wp2_with (go_at_call 30; refine HN.out.mono ?_; rintro e w1 ⟨rfl, hb⟩)
  go_ret
  exact ⟨rfl, below_then hB0 hb⟩
set_option maxRecDepth 100000 in
set_option maxHeartbeats 1000000 in
theorem day_no (x y : Value) (ks : List ByteArray) (ys : List Yr) (d : Dt) (w : World) (hv : CalW w (.agg #[x, y]) ks ys) (hi : chF ks ys [d] ≠ 0) :
    Calls Tryd.prog 15 #[.agg #[x, y], dtA d] w fun e w' => e = .returned (.int .i64 0) ∧ Below w.heap.size w w' := by
  have hn := fun w' (h : CalW w' (.agg #[x, y]) ks ys) => Number_no (.agg #[x, y]) ks ys d w' h hi
  obtain ⟨Ak, nk, ck, Ay, ny, cy, e, _⟩ := hv.cal
  injection e with e
  injection e with e
  injection e with e1 e
  injection e with e2 e
  subst e1
  subst e2
  obtain ⟨dY, dM, dS, dD⟩ := d
  have hB0 : Below w.heap.size w ((w.alloc (.cells #[.slice Ak nk ck, .slice Ay ny cy] 54)).alloc (.cells #[.int .i64 dY, .int .i64 dM, .bool dS, .int .i64 dD] 29)) := (below_alloc' _ _).alloc (by simp) _
  have HN := Lib.hid (hn _ (hv.below hB0))
  clear hn hv hi
  simp only [dtA] at HN ⊢
  generalize chF ks ys [⟨dY, dM, dS, dD⟩] = dn at *
  go_enter Tryd.func15, Tryd.ntmps15
  go_wp2_with (go_at_call 30; refine HN.out.mono ?_; rintro e w1 ⟨rfl, hb⟩)
  go_ret
  exact ⟨rfl, below_then hB0 hb⟩
set_option maxRecDepth 100000 in
set_option maxHeartbeats 1000000 in
theorem between_yes (x y : Value) (ks : List ByteArray) (ys : List Yr) (a b : Dt) (ka kb : Nat) (ma mb : Mo) (w : World) (hv : CalW w (.agg #[x, y]) ks ys) (ha : InC ks ys a ka ma) (hb : InC ks ys b kb mb) :
    Calls Tryd.prog 33 #[.agg #[x, y], dtA a, dtA b] w fun e w' => e = .returned (.int .i64 (schemeF ka kb a b)) ∧ Below w.heap.size w w' := by
  have hn := fun w' (h : CalW w' (.agg #[x, y]) ks ys) => Scheme_yes (.agg #[x, y]) ks ys a b ka kb ma mb w' h ha hb
  obtain ⟨Ak, nk, ck, Ay, ny, cy, e, _⟩ := hv.cal
  injection e with e
  injection e with e
  injection e with e1 e
  injection e with e2 e
  subst e1
  subst e2
  obtain ⟨aY, aM, aS, aD⟩ := a
  obtain ⟨bY, bM, bS, bD⟩ := b
  have hB0 : Below w.heap.size w (((w.alloc (.cells #[.slice Ak nk ck, .slice Ay ny cy] 54)).alloc (.cells #[.int .i64 aY, .int .i64 aM, .bool aS, .int .i64 aD] 29)).alloc (.cells #[.int .i64 bY, .int .i64 bM, .bool bS, .int .i64 bD] 29)) := ((below_alloc' _ _).alloc (by simp) _).alloc (by simp; omega) _
  have HN := Lib.hid (hn _ (hv.below hB0))
  clear hn hv ha hb
  simp only [dtA] at HN ⊢
  generalize schemeF ka kb ⟨aY, aM, aS, aD⟩ ⟨bY, bM, bS, bD⟩ = dn at *
  go_enter Tryd.func33, Tryd.ntmps33
  go_wp2_with (go_at_call 8; refine HN.out.mono ?_; rintro e w1 ⟨rfl, hb⟩)
  go_ret
  exact ⟨rfl, below_then hB0 hb⟩
end Go.Proofs.YthpjeclhignciaaDoor
