/- Walks of the package ledger: Owed. Conditions: those stated; no payments. -/
import Derived.Test.YthpjeclhignciaaDoorT18
namespace Go.Proofs.YthpjeclhignciaaDoor
open Go Go.RowKit Go.Shelf
attribute [local go_sem] Oper.semAt_some rrV

/-- What a debt without an error says. -/
def OwP (PN PD RN RD : Int) (F T : Dt) (ks : List ByteArray) (ys : List Yr) (kt : Nat) (mt : Mo) (a b c d err : Int) : Prop :=
  err = 0 → ∃ kf mf, InC ks ys F kf mf ∧ nnR (PN, PD) = true ∧ nnR (RN, RD) = true ∧ dayOf mf F ≤ dayOf mt T ∧ a = PN ∧ b = PD ∧ (fit (intQ PN PD RN RD (schemeF kf kt F T))).e = 0 ∧ c = (fit (intQ PN PD RN RD (schemeF kf kt F T))).n ∧ d = (fit (intQ PN PD RN RD (schemeF kf kt F T))).d
def OwedR (PN PD RN RD : Int) (F T : Dt) (ks : List ByteArray) (ys : List Yr) (kt : Nat) (mt : Mo) (w : World) (e : Ending) (w' : World) : Prop :=
  ∃ a b c d x y err : Int, e = .returned (.tuple #[.agg #[.int .i64 a, .int .i64 b, .int .i64 c, .int .i64 d, .int .i64 x, .int .i64 y], .int .i64 err]) ∧ Below w.heap.size w w' ∧ Bd err ∧ Hid (OwP PN PD RN RD F T ks ys kt mt a b c d err)
theorem scheme_nonneg {ks : List ByteArray} {ys : List Yr} {F T : Dt} {kf kt : Nat} {mf mt : Mo} (hf : InC ks ys F kf mf) (ht : InC ks ys T kt mt) (h : dayOf mf F ≤ dayOf mt T) : 0 ≤ schemeF kf kt F T := by
  have hs := scheme_sign (mos_row ys) hf.at_ ht.at_ hf.D1 hf.D2 ht.D1 ht.D2
  unfold dayOf at h
  unfold schemeF
  have := hs.2
  omega
theorem owedV_shape (PN PD : Int) (r : RR) : ∃ a b c d x y err : Int, owedV PN PD r = .tuple #[.agg #[.int .i64 a, .int .i64 b, .int .i64 c, .int .i64 d, .int .i64 x, .int .i64 y], .int .i64 err] ∧ (err = 0 → r.e = 0 ∧ a = PN ∧ b = PD ∧ c = r.n ∧ d = r.d) ∧ (err = 0 ∨ err = r.e) := by
  by_cases h : r.e = 0
  · exact ⟨PN, PD, r.n, r.d, 0, 1, 0, if_pos h, fun _ => ⟨h, rfl, rfl, rfl, rfl⟩, .inl rfl⟩
  · exact ⟨0, 0, 0, 0, 0, 0, r.e, if_neg h, fun h' => absurd h' h, .inr rfl⟩
theorem fit_err (q : Rat) : (fit q).e = 0 ∨ (fit q).e = 6 := by
  unfold fit; split
  · exact .inl rfl
  · exact .inr rfl
theorem nnR_of_pos {N D : Int} (h : posB N D = true) : nnR (N, D) = true := by
  simp only [posB, Bool.and_eq_true] at h; exact h.1
theorem nnR_of_sha {N D : Int} (h : shaB N D = true) : nnR (N, D) = true := by
  simp only [shaB, Bool.and_eq_true] at h; exact h.1

set_option maxRecDepth 100000 in
set_option maxHeartbeats 2000000 in
theorem Owed_refused (PN PD RN RD FY FM FD : Int) (FS : Bool) (TY TM TD : Int) (TS : Bool) (Ak Ay : Option Addr) (nk ck ny cy : Nat) (ks : List ByteArray) (ys : List Yr) (kt : Nat) (mt : Mo) (w : World)
    (hcw : CalW w (.agg #[.slice Ak nk ck, .slice Ay ny cy]) ks ys) (hz : Zw w) (hit : InC ks ys ⟨TY, TM, TS, TD⟩ kt mt)
    (hck : ∀ w', CalW w' (.agg #[.slice Ak nk ck, .slice Ay ny cy]) ks ys → Calls Tryd.prog 14 #[.agg #[.slice Ak nk ck, .slice Ay ny cy], .agg #[.int .i64 PN, .int .i64 PD, .int .i64 RN, .int .i64 RD, .int .i64 FY, .int .i64 FM, .bool FS, .int .i64 FD], .slice none 0 0] w' fun e w'' => e = .returned (.int .i64 80) ∧ Below w'.heap.size w' w'') :
    Calls Tryd.prog 6 #[.agg #[.slice Ak nk ck, .slice Ay ny cy], .agg #[.int .i64 PN, .int .i64 PD, .int .i64 RN, .int .i64 RD, .int .i64 FY, .int .i64 FM, .bool FS, .int .i64 FD], .slice none 0 0, .agg #[.int .i64 TY, .int .i64 TM, .bool TS, .int .i64 TD]] w (OwedR PN PD RN RD ⟨FY, FM, FS, FD⟩ ⟨TY, TM, TS, TD⟩ ks ys kt mt w) := by
  have hB0 : Below w.heap.size w ((((w.alloc (.cells #[.slice Ak nk ck, .slice Ay ny cy] 25)).alloc (.cells #[.int .i64 PN, .int .i64 PD, .int .i64 RN, .int .i64 RD, .int .i64 FY, .int .i64 FM, .bool FS, .int .i64 FD] 31)).alloc (.cells #[.int .i64 TY, .int .i64 TM, .bool TS, .int .i64 TD] 29)).alloc (.cells #[.int .i64 0, .int .i64 0, .int .i64 0, .int .i64 0, .int .i64 0, .int .i64 0] 39)) := (((below_alloc' _ _).alloc (by simp) _).alloc (by simp; omega) _).alloc (by simp; omega) _
  have Yl := ((Cel.new (w.alloc (.cells #[.slice Ak nk ck, .slice Ay ny cy] 25)) 31 #[.int .i64 PN, .int .i64 PD, .int .i64 RN, .int .i64 RD, .int .i64 FY, .int .i64 FM, .bool FS, .int .i64 FD]).alloc (.cells #[.int .i64 TY, .int .i64 TM, .bool TS, .int .i64 TD] 29)).alloc (.cells #[.int .i64 0, .int .i64 0, .int .i64 0, .int .i64 0, .int .i64 0, .int .i64 0] 39)
  have Yo := (Cel.new ((w.alloc (.cells #[.slice Ak nk ck, .slice Ay ny cy] 25)).alloc (.cells #[.int .i64 PN, .int .i64 PD, .int .i64 RN, .int .i64 RD, .int .i64 FY, .int .i64 FM, .bool FS, .int .i64 FD] 31)) 29 #[.int .i64 TY, .int .i64 TM, .bool TS, .int .i64 TD]).alloc (.cells #[.int .i64 0, .int .i64 0, .int .i64 0, .int .i64 0, .int .i64 0, .int .i64 0] 39)
  have Yz := Cel.new (((w.alloc (.cells #[.slice Ak nk ck, .slice Ay ny cy] 25)).alloc (.cells #[.int .i64 PN, .int .i64 PD, .int .i64 RN, .int .i64 RD, .int .i64 FY, .int .i64 FM, .bool FS, .int .i64 FD] 31)).alloc (.cells #[.int .i64 TY, .int .i64 TM, .bool TS, .int .i64 TD] 29)) 39 #[.int .i64 0, .int .i64 0, .int .i64 0, .int .i64 0, .int .i64 0, .int .i64 0]
  simp only [World.size_alloc] at Yl Yo Yz
  have hop := fun w' (h : CalW w' (.agg #[.slice Ak nk ck, .slice Ay ny cy]) ks ys) => opened_any (.slice Ak nk ck) (.slice Ay ny cy) ks ys w' h
  rw [show chF ks ys [] = 0 by unfold chF; rw [hit.cal]; rfl] at hop
  have HCZ := Lib.hid (fun w' (h : Below w.heap.size w w') => (⟨hcw.below h, hz.below h⟩ : CalW w' (.agg #[.slice Ak nk ck, .slice Ay ny cy]) ks ys ∧ Zw w'))
  have HOP := Lib.hid hop
  have HCK := Lib.hid hck
  clear hck hop hcw hz hit
  go_enter Tryd.func6, Tryd.ntmps6
  go_wp2_with (first
    | (go_at_call 13; refine (HOP.out _ (HCZ.out _ hB0).1).mono ?_; rintro e W1 ⟨rfl, hb1⟩; have hB1 := below_then hB0 hb1; have Tb := Cel.new W1 54 #[.slice Ak nk ck, .slice Ay ny cy]; have Tl := (Yl.below Yl.lt hb1).alloc (.cells #[.slice Ak nk ck, .slice Ay ny cy] 54); have To := (Yo.below Yo.lt hb1).alloc (.cells #[.slice Ak nk ck, .slice Ay ny cy] 54); have Tz := (Yz.below Yz.lt hb1).alloc (.cells #[.slice Ak nk ck, .slice Ay ny cy] 54); have hB2 := hB1.alloc hB1.size (.cells #[.slice Ak nk ck, .slice Ay ny cy] 54); have hsz := Tz.lt; have l0 := Tl.cell 0 _ rfl; have l1 := Tl.cell 1 _ rfl; have l2 := Tl.cell 2 _ rfl; have l3 := Tl.cell 3 _ rfl; have l4 := Tl.cell 4 _ rfl; have l5 := Tl.cell 5 _ rfl; have l6 := Tl.cell 6 _ rfl; have l7 := Tl.cell 7 _ rfl; have b0 := Tb.cell 0 _ rfl; have b1 := Tb.cell 1 _ rfl)
    | (go_at_call 14; refine (HCK.out _ (HCZ.out _ hB2).1).mono ?_; rintro e W3 ⟨rfl, hb3⟩; have TzN := Tz.below Tz.lt hb3; have z0 := TzN.cell 0 _ rfl; have f0 := TzN.frozen 0; have z1 := TzN.cell 1 _ rfl; have f1 := TzN.frozen 1; have z2 := TzN.cell 2 _ rfl; have f2 := TzN.frozen 2; have z3 := TzN.cell 3 _ rfl; have f3 := TzN.frozen 3; have z4 := TzN.cell 4 _ rfl; have f4 := TzN.frozen 4; have z5 := TzN.cell 5 _ rfl; have f5 := TzN.frozen 5; have hB3 := below_then hB2 hb3))
  have U := (((((TzN.setAt 0 (.int .i64 0)).setAt 1 (.int .i64 0)).setAt 2 (.int .i64 0)).setAt 3 (.int .i64 0)).setAt 4 (.int .i64 0)).setAt 5 (.int .i64 0)
  have u0 := U.cell 0 _ rfl
  have u1 := U.cell 1 _ rfl
  have u2 := U.cell 2 _ rfl
  have u3 := U.cell 3 _ rfl
  have u4 := U.cell 4 _ rfl
  have u5 := U.cell 5 _ rfl
  have hB8 := hB3
  exact bodyPost_ret (v := .tuple #[.agg #[.int .i64 0, .int .i64 0, .int .i64 0, .int .i64 0, .int .i64 0, .int .i64 0], .int .i64 80]) (by simp [results, Tryd.results6, go_sem, u0, u1, u2, u3, u4, u5]) rfl ⟨0, 0, 0, 0, 0, 0, 80, rfl, (((((hB8.setCell (p := ⟨w.heap.size + 1 + 1 + 1, 0, none⟩) (by simp; omega) _).setCell (p := ⟨w.heap.size + 1 + 1 + 1, 1, none⟩) (by simp; omega) _).setCell (p := ⟨w.heap.size + 1 + 1 + 1, 2, none⟩) (by simp; omega) _).setCell (p := ⟨w.heap.size + 1 + 1 + 1, 3, none⟩) (by simp; omega) _).setCell (p := ⟨w.heap.size + 1 + 1 + 1, 4, none⟩) (by simp; omega) _).setCell (p := ⟨w.heap.size + 1 + 1 + 1, 5, none⟩) (by simp; omega) _, by unfold Bd; omega, fun h => by cases h⟩
set_option maxRecDepth 100000 in
set_option maxHeartbeats 2000000 in
theorem Owed_early (PN PD RN RD FY FM FD : Int) (FS : Bool) (TY TM TD : Int) (TS : Bool) (Ak Ay : Option Addr) (nk ck ny cy : Nat) (ks : List ByteArray) (ys : List Yr) (kt : Nat) (mt : Mo) (w : World)
    (hcw : CalW w (.agg #[.slice Ak nk ck, .slice Ay ny cy]) ks ys) (hz : Zw w) (hit : InC ks ys ⟨TY, TM, TS, TD⟩ kt mt) (kf : Nat) (mf : Mo) (hif : InC ks ys ⟨FY, FM, FS, FD⟩ kf mf) (hlt : dayOf mt ⟨TY, TM, TS, TD⟩ < dayOf mf ⟨FY, FM, FS, FD⟩)
    (hck : ∀ w', CalW w' (.agg #[.slice Ak nk ck, .slice Ay ny cy]) ks ys → Calls Tryd.prog 14 #[.agg #[.slice Ak nk ck, .slice Ay ny cy], .agg #[.int .i64 PN, .int .i64 PD, .int .i64 RN, .int .i64 RD, .int .i64 FY, .int .i64 FM, .bool FS, .int .i64 FD], .slice none 0 0] w' fun e w'' => e = .returned (.int .i64 0) ∧ Below w'.heap.size w' w'') :
    Calls Tryd.prog 6 #[.agg #[.slice Ak nk ck, .slice Ay ny cy], .agg #[.int .i64 PN, .int .i64 PD, .int .i64 RN, .int .i64 RD, .int .i64 FY, .int .i64 FM, .bool FS, .int .i64 FD], .slice none 0 0, .agg #[.int .i64 TY, .int .i64 TM, .bool TS, .int .i64 TD]] w (OwedR PN PD RN RD ⟨FY, FM, FS, FD⟩ ⟨TY, TM, TS, TD⟩ ks ys kt mt w) := by
  have hB0 : Below w.heap.size w ((((w.alloc (.cells #[.slice Ak nk ck, .slice Ay ny cy] 25)).alloc (.cells #[.int .i64 PN, .int .i64 PD, .int .i64 RN, .int .i64 RD, .int .i64 FY, .int .i64 FM, .bool FS, .int .i64 FD] 31)).alloc (.cells #[.int .i64 TY, .int .i64 TM, .bool TS, .int .i64 TD] 29)).alloc (.cells #[.int .i64 0, .int .i64 0, .int .i64 0, .int .i64 0, .int .i64 0, .int .i64 0] 39)) := (((below_alloc' _ _).alloc (by simp) _).alloc (by simp; omega) _).alloc (by simp; omega) _
  have Yl := ((Cel.new (w.alloc (.cells #[.slice Ak nk ck, .slice Ay ny cy] 25)) 31 #[.int .i64 PN, .int .i64 PD, .int .i64 RN, .int .i64 RD, .int .i64 FY, .int .i64 FM, .bool FS, .int .i64 FD]).alloc (.cells #[.int .i64 TY, .int .i64 TM, .bool TS, .int .i64 TD] 29)).alloc (.cells #[.int .i64 0, .int .i64 0, .int .i64 0, .int .i64 0, .int .i64 0, .int .i64 0] 39)
  have Yo := (Cel.new ((w.alloc (.cells #[.slice Ak nk ck, .slice Ay ny cy] 25)).alloc (.cells #[.int .i64 PN, .int .i64 PD, .int .i64 RN, .int .i64 RD, .int .i64 FY, .int .i64 FM, .bool FS, .int .i64 FD] 31)) 29 #[.int .i64 TY, .int .i64 TM, .bool TS, .int .i64 TD]).alloc (.cells #[.int .i64 0, .int .i64 0, .int .i64 0, .int .i64 0, .int .i64 0, .int .i64 0] 39)
  have Yz := Cel.new (((w.alloc (.cells #[.slice Ak nk ck, .slice Ay ny cy] 25)).alloc (.cells #[.int .i64 PN, .int .i64 PD, .int .i64 RN, .int .i64 RD, .int .i64 FY, .int .i64 FM, .bool FS, .int .i64 FD] 31)).alloc (.cells #[.int .i64 TY, .int .i64 TM, .bool TS, .int .i64 TD] 29)) 39 #[.int .i64 0, .int .i64 0, .int .i64 0, .int .i64 0, .int .i64 0, .int .i64 0]
  simp only [World.size_alloc] at Yl Yo Yz
  have hop := fun w' (h : CalW w' (.agg #[.slice Ak nk ck, .slice Ay ny cy]) ks ys) => opened_any (.slice Ak nk ck) (.slice Ay ny cy) ks ys w' h
  rw [show chF ks ys [] = 0 by unfold chF; rw [hit.cal]; rfl] at hop
  have HCZ := Lib.hid (fun w' (h : Below w.heap.size w w') => (⟨hcw.below h, hz.below h⟩ : CalW w' (.agg #[.slice Ak nk ck, .slice Ay ny cy]) ks ys ∧ Zw w'))
  have HOP := Lib.hid hop
  have HCK := Lib.hid hck
  have hd1 := fun w' (h : CalW w' (.agg #[.slice Ak nk ck, .slice Ay ny cy]) ks ys) => day_yes (.slice Ak nk ck) (.slice Ay ny cy) ks ys ⟨TY, TM, TS, TD⟩ kt mt w' h hit
  have hd2 := fun w' (h : CalW w' (.agg #[.slice Ak nk ck, .slice Ay ny cy]) ks ys) => day_yes (.slice Ak nk ck) (.slice Ay ny cy) ks ys ⟨FY, FM, FS, FD⟩ kf mf w' h hif
  have hd0 : (dayOf mt ⟨TY, TM, TS, TD⟩ == 0) = false := by
    have := hit.bd
    unfold dayOf
    simp only at *
    exact beq_eq_false_iff_ne.2 (by omega)
  have hdl : decide (dayOf mt ⟨TY, TM, TS, TD⟩ < dayOf mf ⟨FY, FM, FS, FD⟩) = true := decide_eq_true hlt
  simp only [dtA] at hd1 hd2
  have HD1 := Lib.hid hd1
  have HD2 := Lib.hid hd2
  clear hck hop hcw hz hit hif hd1 hd2 hlt
  generalize dayOf mt ⟨TY, TM, TS, TD⟩ = dn at *
  generalize dayOf mf ⟨FY, FM, FS, FD⟩ = df at *
  go_enter Tryd.func6, Tryd.ntmps6
  go_wp2_with (first
    | (go_at_call 13; refine (HOP.out _ (HCZ.out _ hB0).1).mono ?_; rintro e W1 ⟨rfl, hb1⟩; have hB1 := below_then hB0 hb1; have Tb := Cel.new W1 54 #[.slice Ak nk ck, .slice Ay ny cy]; have Tl := (Yl.below Yl.lt hb1).alloc (.cells #[.slice Ak nk ck, .slice Ay ny cy] 54); have To := (Yo.below Yo.lt hb1).alloc (.cells #[.slice Ak nk ck, .slice Ay ny cy] 54); have Tz := (Yz.below Yz.lt hb1).alloc (.cells #[.slice Ak nk ck, .slice Ay ny cy] 54); have hB2 := hB1.alloc hB1.size (.cells #[.slice Ak nk ck, .slice Ay ny cy] 54); have hsz := Tz.lt; have l0 := Tl.cell 0 _ rfl; have l1 := Tl.cell 1 _ rfl; have l2 := Tl.cell 2 _ rfl; have l3 := Tl.cell 3 _ rfl; have l4 := Tl.cell 4 _ rfl; have l5 := Tl.cell 5 _ rfl; have l6 := Tl.cell 6 _ rfl; have l7 := Tl.cell 7 _ rfl; have b0 := Tb.cell 0 _ rfl; have b1 := Tb.cell 1 _ rfl)
    | (go_at_call 14; refine (HCK.out _ (HCZ.out _ hB2).1).mono ?_; rintro e W3 ⟨rfl, hb3⟩; have hB3 := below_then hB2 hb3; have T3b := Tb.below Tb.lt hb3; have T3l := Tl.below Tl.lt hb3; have T3o := To.below To.lt hb3; have T3z := Tz.below Tz.lt hb3; have b0 := T3b.cell 0 _ rfl; have b1 := T3b.cell 1 _ rfl; have o0 := T3o.cell 0 _ rfl; have o1 := T3o.cell 1 _ rfl; have o2 := T3o.cell 2 _ rfl; have o3 := T3o.cell 3 _ rfl)
    | (go_at_call 15; (with_reducible refine (HD1.out _ (HCZ.out _ hB3).1).mono ?_); rintro e W4 ⟨rfl, hb4⟩; have hB4 := below_then hB3 hb4; have T4b := T3b.below T3b.lt hb4; have T4l := T3l.below T3l.lt hb4; have T4z := T3z.below T3z.lt hb4; have b0 := T4b.cell 0 _ rfl; have b1 := T4b.cell 1 _ rfl; have l4 := T4l.cell 4 _ rfl; have l5 := T4l.cell 5 _ rfl; have l6 := T4l.cell 6 _ rfl; have l7 := T4l.cell 7 _ rfl)
    | (go_at_call 15; (with_reducible refine (HD2.out _ (HCZ.out _ hB4).1).mono ?_); rintro e W5 ⟨rfl, hb5⟩; have hB5 := below_then hB4 hb5; have TzN := T4z.below T4z.lt hb5; have z0 := TzN.cell 0 _ rfl; have f0 := TzN.frozen 0; have z1 := TzN.cell 1 _ rfl; have f1 := TzN.frozen 1; have z2 := TzN.cell 2 _ rfl; have f2 := TzN.frozen 2; have z3 := TzN.cell 3 _ rfl; have f3 := TzN.frozen 3; have z4 := TzN.cell 4 _ rfl; have f4 := TzN.frozen 4; have z5 := TzN.cell 5 _ rfl; have f5 := TzN.frozen 5; have hq := TzN.lt))
  have U := (((((TzN.setAt 0 (.int .i64 0)).setAt 1 (.int .i64 0)).setAt 2 (.int .i64 0)).setAt 3 (.int .i64 0)).setAt 4 (.int .i64 0)).setAt 5 (.int .i64 0)
  have u0 := U.cell 0 _ rfl
  have u1 := U.cell 1 _ rfl
  have u2 := U.cell 2 _ rfl
  have u3 := U.cell 3 _ rfl
  have u4 := U.cell 4 _ rfl
  have u5 := U.cell 5 _ rfl
  have hB8 := hB5
  exact bodyPost_ret (v := .tuple #[.agg #[.int .i64 0, .int .i64 0, .int .i64 0, .int .i64 0, .int .i64 0, .int .i64 0], .int .i64 8]) (by simp [results, Tryd.results6, go_sem, u0, u1, u2, u3, u4, u5]) rfl ⟨0, 0, 0, 0, 0, 0, 8, rfl, (((((hB8.setCell (p := ⟨w.heap.size + 1 + 1 + 1, 0, none⟩) (by simp; omega) _).setCell (p := ⟨w.heap.size + 1 + 1 + 1, 1, none⟩) (by simp; omega) _).setCell (p := ⟨w.heap.size + 1 + 1 + 1, 2, none⟩) (by simp; omega) _).setCell (p := ⟨w.heap.size + 1 + 1 + 1, 3, none⟩) (by simp; omega) _).setCell (p := ⟨w.heap.size + 1 + 1 + 1, 4, none⟩) (by simp; omega) _).setCell (p := ⟨w.heap.size + 1 + 1 + 1, 5, none⟩) (by simp; omega) _, by unfold Bd; omega, fun h => by cases h⟩
set_option maxRecDepth 100000 in
set_option maxHeartbeats 2000000 in
theorem Owed_good (PN PD RN RD FY FM FD : Int) (FS : Bool) (TY TM TD : Int) (TS : Bool) (Ak Ay : Option Addr) (nk ck ny cy : Nat) (ks : List ByteArray) (ys : List Yr) (kt : Nat) (mt : Mo) (w : World)
    (hcw : CalW w (.agg #[.slice Ak nk ck, .slice Ay ny cy]) ks ys) (hz : Zw w) (hit : InC ks ys ⟨TY, TM, TS, TD⟩ kt mt) (kf : Nat) (mf : Mo) (hif : InC ks ys ⟨FY, FM, FS, FD⟩ kf mf) (hle : dayOf mf ⟨FY, FM, FS, FD⟩ ≤ dayOf mt ⟨TY, TM, TS, TD⟩) (hP : nnR (PN, PD) = true) (hR : nnR (RN, RD) = true)
    (hck : ∀ w', CalW w' (.agg #[.slice Ak nk ck, .slice Ay ny cy]) ks ys → Calls Tryd.prog 14 #[.agg #[.slice Ak nk ck, .slice Ay ny cy], .agg #[.int .i64 PN, .int .i64 PD, .int .i64 RN, .int .i64 RD, .int .i64 FY, .int .i64 FM, .bool FS, .int .i64 FD], .slice none 0 0] w' fun e w'' => e = .returned (.int .i64 0) ∧ Below w'.heap.size w' w'') :
    Calls Tryd.prog 6 #[.agg #[.slice Ak nk ck, .slice Ay ny cy], .agg #[.int .i64 PN, .int .i64 PD, .int .i64 RN, .int .i64 RD, .int .i64 FY, .int .i64 FM, .bool FS, .int .i64 FD], .slice none 0 0, .agg #[.int .i64 TY, .int .i64 TM, .bool TS, .int .i64 TD]] w (OwedR PN PD RN RD ⟨FY, FM, FS, FD⟩ ⟨TY, TM, TS, TD⟩ ks ys kt mt w) := by
  have hB0 : Below w.heap.size w ((((w.alloc (.cells #[.slice Ak nk ck, .slice Ay ny cy] 25)).alloc (.cells #[.int .i64 PN, .int .i64 PD, .int .i64 RN, .int .i64 RD, .int .i64 FY, .int .i64 FM, .bool FS, .int .i64 FD] 31)).alloc (.cells #[.int .i64 TY, .int .i64 TM, .bool TS, .int .i64 TD] 29)).alloc (.cells #[.int .i64 0, .int .i64 0, .int .i64 0, .int .i64 0, .int .i64 0, .int .i64 0] 39)) := (((below_alloc' _ _).alloc (by simp) _).alloc (by simp; omega) _).alloc (by simp; omega) _
  have Yl := ((Cel.new (w.alloc (.cells #[.slice Ak nk ck, .slice Ay ny cy] 25)) 31 #[.int .i64 PN, .int .i64 PD, .int .i64 RN, .int .i64 RD, .int .i64 FY, .int .i64 FM, .bool FS, .int .i64 FD]).alloc (.cells #[.int .i64 TY, .int .i64 TM, .bool TS, .int .i64 TD] 29)).alloc (.cells #[.int .i64 0, .int .i64 0, .int .i64 0, .int .i64 0, .int .i64 0, .int .i64 0] 39)
  have Yo := (Cel.new ((w.alloc (.cells #[.slice Ak nk ck, .slice Ay ny cy] 25)).alloc (.cells #[.int .i64 PN, .int .i64 PD, .int .i64 RN, .int .i64 RD, .int .i64 FY, .int .i64 FM, .bool FS, .int .i64 FD] 31)) 29 #[.int .i64 TY, .int .i64 TM, .bool TS, .int .i64 TD]).alloc (.cells #[.int .i64 0, .int .i64 0, .int .i64 0, .int .i64 0, .int .i64 0, .int .i64 0] 39)
  have Yz := Cel.new (((w.alloc (.cells #[.slice Ak nk ck, .slice Ay ny cy] 25)).alloc (.cells #[.int .i64 PN, .int .i64 PD, .int .i64 RN, .int .i64 RD, .int .i64 FY, .int .i64 FM, .bool FS, .int .i64 FD] 31)).alloc (.cells #[.int .i64 TY, .int .i64 TM, .bool TS, .int .i64 TD] 29)) 39 #[.int .i64 0, .int .i64 0, .int .i64 0, .int .i64 0, .int .i64 0, .int .i64 0]
  simp only [World.size_alloc] at Yl Yo Yz
  have hop := fun w' (h : CalW w' (.agg #[.slice Ak nk ck, .slice Ay ny cy]) ks ys) => opened_any (.slice Ak nk ck) (.slice Ay ny cy) ks ys w' h
  rw [show chF ks ys [] = 0 by unfold chF; rw [hit.cal]; rfl] at hop
  have HCZ := Lib.hid (fun w' (h : Below w.heap.size w w') => (⟨hcw.below h, hz.below h⟩ : CalW w' (.agg #[.slice Ak nk ck, .slice Ay ny cy]) ks ys ∧ Zw w'))
  have HOP := Lib.hid hop
  have HCK := Lib.hid hck
  have hd1 := fun w' (h : CalW w' (.agg #[.slice Ak nk ck, .slice Ay ny cy]) ks ys) => day_yes (.slice Ak nk ck) (.slice Ay ny cy) ks ys ⟨TY, TM, TS, TD⟩ kt mt w' h hit
  have hd2 := fun w' (h : CalW w' (.agg #[.slice Ak nk ck, .slice Ay ny cy]) ks ys) => day_yes (.slice Ak nk ck) (.slice Ay ny cy) ks ys ⟨FY, FM, FS, FD⟩ kf mf w' h hif
  have how := fun w' (h : CalW w' (.agg #[.slice Ak nk ck, .slice Ay ny cy]) ks ys ∧ Zw w') => owed_any PN PD RN RD FY FM FD FS TY TM TD TS Ak Ay nk ck ny cy ks ys kf kt mf mt w' h.1 h.2 hP hR hif hit (scheme_nonneg hif hit hle) _ rfl
  obtain ⟨a, b, c, d, x, y, err, hsh, herr, her2⟩ := owedV_shape PN PD (fit (intQ PN PD RN RD (schemeF kf kt ⟨FY, FM, FS, FD⟩ ⟨TY, TM, TS, TD⟩)))
  rw [hsh] at how
  have HW : Hid (OwP PN PD RN RD ⟨FY, FM, FS, FD⟩ ⟨TY, TM, TS, TD⟩ ks ys kt mt a b c d err) := fun h => by
    obtain ⟨g1, g2, g3, g4, g5⟩ := herr h
    exact ⟨kf, mf, hif, hP, hR, hle, g2, g3, g1, g4, g5⟩
  have hbe : Bd err := by
    have := fit_err (intQ PN PD RN RD (schemeF kf kt ⟨FY, FM, FS, FD⟩ ⟨TY, TM, TS, TD⟩))
    unfold Bd; omega
  have hd0 : (dayOf mt ⟨TY, TM, TS, TD⟩ == 0) = false := by
    have := hit.bd
    unfold dayOf
    simp only at *
    exact beq_eq_false_iff_ne.2 (by omega)
  have hdl : decide (dayOf mt ⟨TY, TM, TS, TD⟩ < dayOf mf ⟨FY, FM, FS, FD⟩) = false := decide_eq_false (by omega)
  simp only [dtA] at hd1 hd2
  have HD1 := Lib.hid hd1
  have HD2 := Lib.hid hd2
  have HOW := Lib.hid how
  have HBE := Lib.hid hbe
  clear hck hop hcw hz hit hif hd1 hd2 hle how hP hR hsh herr her2 hbe
  generalize dayOf mt ⟨TY, TM, TS, TD⟩ = dn at *
  generalize dayOf mf ⟨FY, FM, FS, FD⟩ = df at *
  go_enter Tryd.func6, Tryd.ntmps6
  go_wp2_with (first
    | (go_at_call 13; refine (HOP.out _ (HCZ.out _ hB0).1).mono ?_; rintro e W1 ⟨rfl, hb1⟩; have hB1 := below_then hB0 hb1; have Tb := Cel.new W1 54 #[.slice Ak nk ck, .slice Ay ny cy]; have Tl := (Yl.below Yl.lt hb1).alloc (.cells #[.slice Ak nk ck, .slice Ay ny cy] 54); have To := (Yo.below Yo.lt hb1).alloc (.cells #[.slice Ak nk ck, .slice Ay ny cy] 54); have Tz := (Yz.below Yz.lt hb1).alloc (.cells #[.slice Ak nk ck, .slice Ay ny cy] 54); have hB2 := hB1.alloc hB1.size (.cells #[.slice Ak nk ck, .slice Ay ny cy] 54); have hsz := Tz.lt; have l0 := Tl.cell 0 _ rfl; have l1 := Tl.cell 1 _ rfl; have l2 := Tl.cell 2 _ rfl; have l3 := Tl.cell 3 _ rfl; have l4 := Tl.cell 4 _ rfl; have l5 := Tl.cell 5 _ rfl; have l6 := Tl.cell 6 _ rfl; have l7 := Tl.cell 7 _ rfl; have b0 := Tb.cell 0 _ rfl; have b1 := Tb.cell 1 _ rfl)
    | (go_at_call 14; refine (HCK.out _ (HCZ.out _ hB2).1).mono ?_; rintro e W3 ⟨rfl, hb3⟩; have hB3 := below_then hB2 hb3; have T3b := Tb.below Tb.lt hb3; have T3l := Tl.below Tl.lt hb3; have T3o := To.below To.lt hb3; have T3z := Tz.below Tz.lt hb3; have b0 := T3b.cell 0 _ rfl; have b1 := T3b.cell 1 _ rfl; have o0 := T3o.cell 0 _ rfl; have o1 := T3o.cell 1 _ rfl; have o2 := T3o.cell 2 _ rfl; have o3 := T3o.cell 3 _ rfl)
    | (go_at_call 15; (with_reducible refine (HD1.out _ (HCZ.out _ hB3).1).mono ?_); rintro e W4 ⟨rfl, hb4⟩; have hB4 := below_then hB3 hb4; have T4b := T3b.below T3b.lt hb4; have T4l := T3l.below T3l.lt hb4; have T4o := T3o.below T3o.lt hb4; have T4z := T3z.below T3z.lt hb4; have b0 := T4b.cell 0 _ rfl; have b1 := T4b.cell 1 _ rfl; have l4 := T4l.cell 4 _ rfl; have l5 := T4l.cell 5 _ rfl; have l6 := T4l.cell 6 _ rfl; have l7 := T4l.cell 7 _ rfl)
    | (go_at_call 15; (with_reducible refine (HD2.out _ (HCZ.out _ hB4).1).mono ?_); rintro e W5 ⟨rfl, hb5⟩; have hB5 := below_then hB4 hb5; have T5b := T4b.below T4b.lt hb5; have T5l := T4l.below T4l.lt hb5; have T5o := T4o.below T4o.lt hb5; have T5z := T4z.below T4z.lt hb5; have b0 := T5b.cell 0 _ rfl; have b1 := T5b.cell 1 _ rfl; have l0 := T5l.cell 0 _ rfl; have l1 := T5l.cell 1 _ rfl; have l2 := T5l.cell 2 _ rfl; have l3 := T5l.cell 3 _ rfl; have l4 := T5l.cell 4 _ rfl; have l5 := T5l.cell 5 _ rfl; have l6 := T5l.cell 6 _ rfl; have l7 := T5l.cell 7 _ rfl; have o0 := T5o.cell 0 _ rfl; have o1 := T5o.cell 1 _ rfl; have o2 := T5o.cell 2 _ rfl; have o3 := T5o.cell 3 _ rfl)
    | (go_at_call 16; (with_reducible refine (HOW.out _ (HCZ.out _ hB5)).mono ?_); rintro e W6 ⟨rfl, hb6⟩; have hB6 := below_then hB5 hb6; have TzN := T5z.below T5z.lt hb6; have z0 := TzN.cell 0 _ rfl; have f0 := TzN.frozen 0; have z1 := TzN.cell 1 _ rfl; have f1 := TzN.frozen 1; have z2 := TzN.cell 2 _ rfl; have f2 := TzN.frozen 2; have z3 := TzN.cell 3 _ rfl; have f3 := TzN.frozen 3; have z4 := TzN.cell 4 _ rfl; have f4 := TzN.frozen 4; have z5 := TzN.cell 5 _ rfl; have f5 := TzN.frozen 5; have hq := TzN.lt))
  have U := (((((TzN.setAt 0 (.int .i64 a)).setAt 1 (.int .i64 b)).setAt 2 (.int .i64 c)).setAt 3 (.int .i64 d)).setAt 4 (.int .i64 x)).setAt 5 (.int .i64 y)
  have u0 := U.cell 0 _ rfl
  have u1 := U.cell 1 _ rfl
  have u2 := U.cell 2 _ rfl
  have u3 := U.cell 3 _ rfl
  have u4 := U.cell 4 _ rfl
  have u5 := U.cell 5 _ rfl
  have hB8 := hB6
  exact bodyPost_ret (v := .tuple #[.agg #[.int .i64 a, .int .i64 b, .int .i64 c, .int .i64 d, .int .i64 x, .int .i64 y], .int .i64 err]) (by simp [results, Tryd.results6, go_sem, u0, u1, u2, u3, u4, u5]) rfl ⟨a, b, c, d, x, y, err, rfl, (((((hB8.setCell (p := ⟨w.heap.size + 1 + 1 + 1, 0, none⟩) (by simp; omega) _).setCell (p := ⟨w.heap.size + 1 + 1 + 1, 1, none⟩) (by simp; omega) _).setCell (p := ⟨w.heap.size + 1 + 1 + 1, 2, none⟩) (by simp; omega) _).setCell (p := ⟨w.heap.size + 1 + 1 + 1, 3, none⟩) (by simp; omega) _).setCell (p := ⟨w.heap.size + 1 + 1 + 1, 4, none⟩) (by simp; omega) _).setCell (p := ⟨w.heap.size + 1 + 1 + 1, 5, none⟩) (by simp; omega) _, HBE.out, HW⟩
/-- Owed of a loan without payments, on a day of a valid calendar. -/
theorem Owed_any (PN PD RN RD FY FM FD : Int) (FS : Bool) (TY TM TD : Int) (TS : Bool) (Ak Ay : Option Addr) (nk ck ny cy : Nat) (ks : List ByteArray) (ys : List Yr) (kt : Nat) (mt : Mo) (w : World)
    (hcw : CalW w (.agg #[.slice Ak nk ck, .slice Ay ny cy]) ks ys) (hz : Zw w) (hit : InC ks ys ⟨TY, TM, TS, TD⟩ kt mt) (bPN : Bd PN) (bPD : Bd PD) (bRN : Bd RN) (bRD : Bd RD) :
    Calls Tryd.prog 6 #[.agg #[.slice Ak nk ck, .slice Ay ny cy], .agg #[.int .i64 PN, .int .i64 PD, .int .i64 RN, .int .i64 RD, .int .i64 FY, .int .i64 FM, .bool FS, .int .i64 FD], .slice none 0 0, .agg #[.int .i64 TY, .int .i64 TM, .bool TS, .int .i64 TD]] w (OwedR PN PD RN RD ⟨FY, FM, FS, FD⟩ ⟨TY, TM, TS, TD⟩ ks ys kt mt w) := by
  by_cases hF : chF ks ys [⟨FY, FM, FS, FD⟩] = 0
  · have hi : inB ys ⟨FY, FM, FS, FD⟩ = true := by
      unfold chF at hF
      rw [if_pos hit.cal] at hF
      split at hF
      · next h => simpa using h
      · cases hF
    obtain ⟨kf, mf, hif⟩ := inC_of hit.cal hi
    have hck := fun w' (h : CalW w' (.agg #[.slice Ak nk ck, .slice Ay ny cy]) ks ys) => checkLoan_yes (.slice Ak nk ck) (.slice Ay ny cy) ks ys PN PD RN RD FY FM FD FS kf mf hif w' h bPN bPD bRN bRD
    cases hb : (posB PN PD && shaB RN RD) with
    | false =>
      rw [hb] at hck
      exact Owed_refused PN PD RN RD FY FM FD FS TY TM TD TS Ak Ay nk ck ny cy ks ys kt mt w hcw hz hit hck
    | true =>
      rw [hb] at hck
      rw [Bool.and_eq_true] at hb
      by_cases hlt : dayOf mt ⟨TY, TM, TS, TD⟩ < dayOf mf ⟨FY, FM, FS, FD⟩
      · exact Owed_early PN PD RN RD FY FM FD FS TY TM TD TS Ak Ay nk ck ny cy ks ys kt mt w hcw hz hit kf mf hif hlt hck
      · exact Owed_good PN PD RN RD FY FM FD FS TY TM TD TS Ak Ay nk ck ny cy ks ys kt mt w hcw hz hit kf mf hif (by omega) (nnR_of_pos hb.1) (nnR_of_sha hb.2) hck
  · exact Owed_refused PN PD RN RD FY FM FD FS TY TM TD TS Ak Ay nk ck ny cy ks ys kt mt w hcw hz hit
      (fun w' h => checkLoan_no (.slice Ak nk ck) (.slice Ay ny cy) ks ys PN PD RN RD FY FM FD FS hF w' h bPN bPD bRN bRD)
end Go.Proofs.YthpjeclhignciaaDoor
