/- Walks of the package ledger: owed. Conditions: those stated; no payments. -/
import Derived.Test.YthpjeclhignciaaDoorT17
import Derived.Laws.EntriesVeiled
namespace Go.Proofs.YthpjeclhignciaaDoor
open Go Go.RowKit Go.Shelf
attribute [local go_sem] Oper.semAt_some rrV

/-- What a loan without payments owes. -/
def owedV (PN PD : Int) (r : RR) : Value := if r.e = 0 then .tuple #[.agg #[.int .i64 PN, .int .i64 PD, .int .i64 r.n, .int .i64 r.d, .int .i64 0, .int .i64 1], .int .i64 0] else .tuple #[.agg #[.int .i64 0, .int .i64 0, .int .i64 0, .int .i64 0, .int .i64 0, .int .i64 0], .int .i64 r.e]
set_option maxRecDepth 100000 in
set_option maxHeartbeats 4000000 in
theorem owed_any (PN PD RN RD FY FM FD : Int) (FS : Bool) (TY TM TD : Int) (TS : Bool) (Ak Ay : Option Addr) (nk ck ny cy : Nat) (ks : List ByteArray) (ys : List Yr) (kf kt : Nat) (mf mt : Mo) (w : World)
    (hcw : CalW w (.agg #[.slice Ak nk ck, .slice Ay ny cy]) ks ys) (hz : Zw w)
    (hP : nnR (PN, PD) = true) (hR : nnR (RN, RD) = true) (hif : InC ks ys ⟨FY, FM, FS, FD⟩ kf mf) (hit : InC ks ys ⟨TY, TM, TS, TD⟩ kt mt)
    (hs1 : 0 ≤ schemeF kf kt ⟨FY, FM, FS, FD⟩ ⟨TY, TM, TS, TD⟩) (r : RR) (hr : fit (intQ PN PD RN RD (schemeF kf kt ⟨FY, FM, FS, FD⟩ ⟨TY, TM, TS, TD⟩)) = r) :
    Calls Tryd.prog 16 #[.agg #[.slice Ak nk ck, .slice Ay ny cy], .agg #[.int .i64 PN, .int .i64 PD, .int .i64 RN, .int .i64 RD, .int .i64 FY, .int .i64 FM, .bool FS, .int .i64 FD], .slice none 0 0, .agg #[.int .i64 TY, .int .i64 TM, .bool TS, .int .i64 TD]] w fun e w' => e = .returned (owedV PN PD r) ∧ Below w.heap.size w w' := by
  have hmf : ∀ (fn : Fn) (first cap : Array Value) (w : World), (Instr.makeFunc fn first cap).run Tryd.prog w = .ok (.func fn first cap) w := fun _ _ _ _ => rfl
  have hB0 : Below w.heap.size w ((((w.alloc (.cells #[.slice Ak nk ck, .slice Ay ny cy] 54)).alloc (.cells #[.int .i64 PN, .int .i64 PD, .int .i64 RN, .int .i64 RD, .int .i64 FY, .int .i64 FM, .bool FS, .int .i64 FD] 31)).alloc (.cells #[.int .i64 TY, .int .i64 TM, .bool TS, .int .i64 TD] 29)).alloc (.cells #[.int .i64 0, .int .i64 0, .int .i64 0, .int .i64 0, .int .i64 0, .int .i64 0] 39)) := (((below_alloc' _ _).alloc (by simp) _).alloc (by simp; omega) _).alloc (by simp; omega) _
  have Yb := (((Cel.new w 54 #[.slice Ak nk ck, .slice Ay ny cy]).alloc (.cells #[.int .i64 PN, .int .i64 PD, .int .i64 RN, .int .i64 RD, .int .i64 FY, .int .i64 FM, .bool FS, .int .i64 FD] 31)).alloc (.cells #[.int .i64 TY, .int .i64 TM, .bool TS, .int .i64 TD] 29)).alloc (.cells #[.int .i64 0, .int .i64 0, .int .i64 0, .int .i64 0, .int .i64 0, .int .i64 0] 39)
  have Yl := ((Cel.new (w.alloc (.cells #[.slice Ak nk ck, .slice Ay ny cy] 54)) 31 #[.int .i64 PN, .int .i64 PD, .int .i64 RN, .int .i64 RD, .int .i64 FY, .int .i64 FM, .bool FS, .int .i64 FD]).alloc (.cells #[.int .i64 TY, .int .i64 TM, .bool TS, .int .i64 TD] 29)).alloc (.cells #[.int .i64 0, .int .i64 0, .int .i64 0, .int .i64 0, .int .i64 0, .int .i64 0] 39)
  have Yo := (Cel.new ((w.alloc (.cells #[.slice Ak nk ck, .slice Ay ny cy] 54)).alloc (.cells #[.int .i64 PN, .int .i64 PD, .int .i64 RN, .int .i64 RD, .int .i64 FY, .int .i64 FM, .bool FS, .int .i64 FD] 31)) 29 #[.int .i64 TY, .int .i64 TM, .bool TS, .int .i64 TD]).alloc (.cells #[.int .i64 0, .int .i64 0, .int .i64 0, .int .i64 0, .int .i64 0, .int .i64 0] 39)
  have Yz := Cel.new (((w.alloc (.cells #[.slice Ak nk ck, .slice Ay ny cy] 54)).alloc (.cells #[.int .i64 PN, .int .i64 PD, .int .i64 RN, .int .i64 RD, .int .i64 FY, .int .i64 FM, .bool FS, .int .i64 FD] 31)).alloc (.cells #[.int .i64 TY, .int .i64 TM, .bool TS, .int .i64 TD] 29)) 39 #[.int .i64 0, .int .i64 0, .int .i64 0, .int .i64 0, .int .i64 0, .int .i64 0]
  simp only [World.size_alloc] at Yl Yo Yz
  have hday := fun w' (h : CalW w' (.agg #[.slice Ak nk ck, .slice Ay ny cy]) ks ys) => day_yes (.slice Ak nk ck) (.slice Ay ny cy) ks ys ⟨TY, TM, TS, TD⟩ kt mt w' h hit
  simp only [dtA] at hday
  have HCZ := Lib.hid (fun w' (h : Below w.heap.size w w') => (⟨hcw.below h, hz.below h⟩ : CalW w' (.agg #[.slice Ak nk ck, .slice Ay ny cy]) ks ys ∧ Zw w'))
  have HDAY := Lib.hid hday
  have HAC := Lib.hid (fun Bf Bq Bfr Be W hB hq h2 h3 h4 h5 hfn hln hbk hfr hdb he =>
    accrue_any Bf (w.heap.size + 1) w.heap.size Bfr Bq Be PN PD RN RD FY FM FD FS TY TM TD TS Ak Ay nk ck ny cy ks ys kf kt mf mt (w.heap.size + 4) W (by omega) h2 h3 h4 h5 hq hfn hln hbk hfr hdb he (fun w' h => HCZ.out w' (Below.trans hB (h.mono (by omega)))) hP hR hif hit hs1 r hr)
  clear hday hcw hz hP hR hif hit hs1 hr
  obtain ⟨rn, rd, re⟩ := r
  generalize dayOf mt ⟨TY, TM, TS, TD⟩ = dn at *
  go_enter Tryd.func16, Tryd.ntmps16
  go_wp2
  obtain ⟨V, hV⟩ : ∃ V, ((((w.alloc (.cells #[.slice Ak nk ck, .slice Ay ny cy] 54)).alloc (.cells #[.int .i64 PN, .int .i64 PD, .int .i64 RN, .int .i64 RD, .int .i64 FY, .int .i64 FM, .bool FS, .int .i64 FD] 31)).alloc (.cells #[.int .i64 TY, .int .i64 TM, .bool TS, .int .i64 TD] 29)).alloc (.cells #[.int .i64 0, .int .i64 0, .int .i64 0, .int .i64 0, .int .i64 0, .int .i64 0] 39)) = V := ⟨_, rfl⟩
  have hsz : V.heap.size = w.heap.size + 4 := by rw [← hV]; simp
  rw [hV] at hB0 Yb Yl Yo Yz ⊢
  clear hV
  have HX := Lib.hid (fun w' (h : Below V.heap.size V w') => (⟨Yb.below Yb.lt h, Yl.below Yl.lt h, Yo.below Yo.lt h, Yz.below Yz.lt h⟩ : Cel w' w.heap.size 54 #[.slice Ak nk ck, .slice Ay ny cy] ∧ Cel w' (w.heap.size + 1) 31 #[.int .i64 PN, .int .i64 PD, .int .i64 RN, .int .i64 RD, .int .i64 FY, .int .i64 FM, .bool FS, .int .i64 FD] ∧ Cel w' (w.heap.size + 1 + 1) 29 #[.int .i64 TY, .int .i64 TM, .bool TS, .int .i64 TD] ∧ Cel w' (w.heap.size + 1 + 1 + 1) 39 #[.int .i64 0, .int .i64 0, .int .i64 0, .int .i64 0, .int .i64 0, .int .i64 0]))
  have HV := Lib.hid hB0
  clear hB0 Yb Yl Yo Yz
  go_upto_region 1 with fail
  go_cut [10] (fun t10 wx => ∃ (Bq : Nat) (Wc : World), Wc = wx ∧ t10 = .pointer (some ⟨Bq, 0, none⟩) ∧ V.heap.size ≤ Bq ∧ Cel wx Bq 39 #[.int .i64 PN, .int .i64 PD, .int .i64 0, .int .i64 1, .int .i64 0, .int .i64 1] ∧ Below V.heap.size V wx)
  case first =>
    have HB0 := Lib.hid (show Below V.heap.size V V.drew from below_drew (Below.refl _ _))
    refine wp_region_held_drew (S := fun w' => Below V.heap.size V w') (by kernel_rfl) (below_drew (Below.refl _ _)) (fun hHeld => ?_)
    obtain ⟨U, hU⟩ : ∃ U, V.drew = U := ⟨_, rfl⟩
    rw [hU] at HB0 hHeld ⊢
    clear hU
    refine wpAnyH_takeD (i := 0) (v := ?_) 21 rfl (by kernel_rfl) (by kernel_rfl) (by kernel_rfl) (fun _ _ _ h => h) (Or.inl ⟨by rfl, ?_⟩) (by assumption) rfl ?_
    rotate_left
    · intro w' hSw
      obtain ⟨x1, x2, x3, x4⟩ := HX.out w' hSw; have l0 := x2.cell 0 _ rfl; have l1 := x2.cell 1 _ rfl
      go_simp <;> with_reducible rfl
    simp only [List.setIfInBounds_toArray, List.set_cons_succ, List.set_cons_zero]
    refine wpAnyH_takeD (i := 1) (v := ?_) 22 rfl (by kernel_rfl) (by kernel_rfl) (by kernel_rfl) (fun _ _ _ h => h) (Or.inl ⟨by rfl, ?_⟩) (by assumption) rfl ?_
    rotate_left
    · intro w' hSw
      obtain ⟨x1, x2, x3, x4⟩ := HX.out w' hSw; have l0 := x2.cell 0 _ rfl; have l1 := x2.cell 1 _ rfl
      go_simp <;> with_reducible rfl
    simp only [List.setIfInBounds_toArray, List.set_cons_succ, List.set_cons_zero]
    refine wpAnyH_ready (rs := [2, 5]) (by kernel_rfl) (by simp) ?_
    refine AllReadyH.cons (o := _) rfl (fun K hK => ?_) (AllReadyH.cons (o := _) rfl (fun K hK => ?_) AllReadyH.nil)
    · go_simp
      go_at_call 20
      refine (whole_any 0 _).mono ?_
      rintro e w1 ⟨rfl, hb⟩
      have HB1 := Lib.hid (HB0.out.trans (hb.mono HB0.out.size))
      clear hb
      refine hK.out _ _ HB1.out (fun hHeldw1 => ?_)
      clear hK K
      refine wpAnyH_ready (rs := [3, 5]) (by kernel_rfl) (by simp) ?_
      refine AllReadyH.cons (o := _) rfl (fun K hK => ?_) (AllReadyH.cons (o := _) rfl (fun K hK => ?_) AllReadyH.nil)
      · go_simp
        go_at_call 20
        refine (whole_any 0 _).mono ?_
        rintro e w2 ⟨rfl, hb⟩
        have HB2 := Lib.hid (HB1.out.trans (hb.mono HB1.out.size))
        clear hb
        refine hK.out _ _ HB2.out (fun hHeldw2 => ?_)
        clear hK K
        refine wpAnyH_takeD (i := 4) (v := ?_) 25 rfl (by kernel_rfl) (by kernel_rfl) (by kernel_rfl) (fun _ _ _ h => h) (Or.inl ⟨by rfl, ?_⟩) (by assumption) rfl ?_
        rotate_left
        · intro w' hSw
          go_simp <;> with_reducible rfl
        simp only [List.setIfInBounds_toArray, List.set_cons_succ, List.set_cons_zero]
        refine wpAnyH_ready (rs := [5]) (by kernel_rfl) (by simp) ?_
        refine AllReadyH.cons (o := _) rfl (fun K hK => ?_) AllReadyH.nil
        go_simp
        have HBa := Lib.hid (HB2.out.alloc HB2.out.size (.cells #[.int .i64 0, .int .i64 0, .int .i64 0, .int .i64 0, .int .i64 0, .int .i64 0] 39))
        have HT := Lib.hid (Cel.new w2 39 #[.int .i64 0, .int .i64 0, .int .i64 0, .int .i64 0, .int .i64 0, .int .i64 0])
        have hBq : V.heap.size ≤ w2.heap.size := HB2.out.size
        refine hK.out _ _ HBa.out (fun hHeldA => ?_)
        obtain ⟨wa, hwa⟩ : ∃ wa, w2.alloc (.cells #[.int .i64 0, .int .i64 0, .int .i64 0, .int .i64 0, .int .i64 0, .int .i64 0] 39) = wa := ⟨_, rfl⟩
        rw [hwa] at HBa HT hHeldA ⊢
        obtain ⟨Bq, hBq'⟩ : ∃ Bq, w2.heap.size = Bq := ⟨_, rfl⟩
        rw [hBq'] at HT hBq ⊢
        clear hwa hBq'
        clear hK K
        have f0 := HT.out.frozen 0
        have f1 := HT.out.frozen 1
        have f2 := HT.out.frozen 2
        have f3 := HT.out.frozen 3
        have f4 := HT.out.frozen 4
        have f5 := HT.out.frozen 5
        have q0 := HT.out.cell 0 _ rfl
        have q1 := HT.out.cell 1 _ rfl
        have q2 := HT.out.cell 2 _ rfl
        have q3 := HT.out.cell 3 _ rfl
        have q4 := HT.out.cell 4 _ rfl
        have q5 := HT.out.cell 5 _ rfl
        refine wpAnyH_ready (rs := [6]) (by kernel_rfl) (by simp) ?_
        refine AllReadyH.cons (o := _) rfl (fun K hK => ?_) AllReadyH.nil
        go_simp
        have HT9 := Lib.hid ((((((HT.out.setAt 0 (.int .i64 PN)).setAt 1 (.int .i64 PD)).setAt 2 (.int .i64 0)).setAt 3 (.int .i64 1)).setAt 4 (.int .i64 0)).setAt 5 (.int .i64 1))
        have hgs := ((((((grown_set wa Bq 0 (.int .i64 PN)).trans (grown_set _ Bq 1 (.int .i64 PD))).trans (grown_set _ Bq 2 (.int .i64 0))).trans (grown_set _ Bq 3 (.int .i64 1))).trans (grown_set _ Bq 4 (.int .i64 0))).trans (grown_set _ Bq 5 (.int .i64 1)))
        have HB9 := Lib.hid (HBa.out.grown hgs (by have := HBa.out.size; omega) (fun j e => by cases e; omega))
        refine hK.out _ _ HB9.out (fun hHeld9 => ?_)
        clear hK K
        refine wpAnyH_done (by kernel_rfl) ?_ _
        go_wp2
        go_meet
        exact ⟨Bq, _, rfl, rfl, hBq, HT9.out, HB9.out⟩
      · go_simp
        have HBa := Lib.hid (HB1.out.alloc HB1.out.size (.cells #[.int .i64 0, .int .i64 0, .int .i64 0, .int .i64 0, .int .i64 0, .int .i64 0] 39))
        have HT := Lib.hid (Cel.new w1 39 #[.int .i64 0, .int .i64 0, .int .i64 0, .int .i64 0, .int .i64 0, .int .i64 0])
        have hBq : V.heap.size ≤ w1.heap.size := HB1.out.size
        refine hK.out _ _ HBa.out (fun hHeldA => ?_)
        obtain ⟨wa, hwa⟩ : ∃ wa, w1.alloc (.cells #[.int .i64 0, .int .i64 0, .int .i64 0, .int .i64 0, .int .i64 0, .int .i64 0] 39) = wa := ⟨_, rfl⟩
        rw [hwa] at HBa HT hHeldA ⊢
        obtain ⟨Bq, hBq'⟩ : ∃ Bq, w1.heap.size = Bq := ⟨_, rfl⟩
        rw [hBq'] at HT hBq ⊢
        clear hwa hBq'
        clear hK K
        refine wpAnyH_ready (rs := [3]) (by kernel_rfl) (by simp) ?_
        refine AllReadyH.cons (o := _) rfl (fun K hK => ?_) AllReadyH.nil
        go_simp
        go_at_call 20
        refine (whole_any 0 _).mono ?_
        rintro e w2 ⟨rfl, hb⟩
        have HB2 := Lib.hid (HBa.out.trans (hb.mono HBa.out.size))
        have HT := Lib.hid (HT.out.below HT.out.lt hb)
        clear hb
        refine hK.out _ _ HB2.out (fun hHeldw2 => ?_)
        clear hK K
        refine wpAnyH_takeD (i := 4) (v := ?_) 25 rfl (by kernel_rfl) (by kernel_rfl) (by kernel_rfl) (fun _ _ _ h => h) (Or.inl ⟨by rfl, ?_⟩) (by assumption) rfl ?_
        rotate_left
        · intro w' hSw
          go_simp <;> with_reducible rfl
        simp only [List.setIfInBounds_toArray, List.set_cons_succ, List.set_cons_zero]
        have f0 := HT.out.frozen 0
        have f1 := HT.out.frozen 1
        have f2 := HT.out.frozen 2
        have f3 := HT.out.frozen 3
        have f4 := HT.out.frozen 4
        have f5 := HT.out.frozen 5
        have q0 := HT.out.cell 0 _ rfl
        have q1 := HT.out.cell 1 _ rfl
        have q2 := HT.out.cell 2 _ rfl
        have q3 := HT.out.cell 3 _ rfl
        have q4 := HT.out.cell 4 _ rfl
        have q5 := HT.out.cell 5 _ rfl
        refine wpAnyH_ready (rs := [6]) (by kernel_rfl) (by simp) ?_
        refine AllReadyH.cons (o := _) rfl (fun K hK => ?_) AllReadyH.nil
        go_simp
        have HT9 := Lib.hid ((((((HT.out.setAt 0 (.int .i64 PN)).setAt 1 (.int .i64 PD)).setAt 2 (.int .i64 0)).setAt 3 (.int .i64 1)).setAt 4 (.int .i64 0)).setAt 5 (.int .i64 1))
        have hgs := ((((((grown_set w2 Bq 0 (.int .i64 PN)).trans (grown_set _ Bq 1 (.int .i64 PD))).trans (grown_set _ Bq 2 (.int .i64 0))).trans (grown_set _ Bq 3 (.int .i64 1))).trans (grown_set _ Bq 4 (.int .i64 0))).trans (grown_set _ Bq 5 (.int .i64 1)))
        have HB9 := Lib.hid (HB2.out.grown hgs (by have := HB2.out.size; omega) (fun j e => by cases e; omega))
        refine hK.out _ _ HB9.out (fun hHeld9 => ?_)
        clear hK K
        refine wpAnyH_done (by kernel_rfl) ?_ _
        go_wp2
        go_meet
        exact ⟨Bq, _, rfl, rfl, hBq, HT9.out, HB9.out⟩
    · go_simp
      have HBa := Lib.hid (HB0.out.alloc HB0.out.size (.cells #[.int .i64 0, .int .i64 0, .int .i64 0, .int .i64 0, .int .i64 0, .int .i64 0] 39))
      have HT := Lib.hid (Cel.new U 39 #[.int .i64 0, .int .i64 0, .int .i64 0, .int .i64 0, .int .i64 0, .int .i64 0])
      have hBq : V.heap.size ≤ U.heap.size := HB0.out.size
      refine hK.out _ _ HBa.out (fun hHeldA => ?_)
      obtain ⟨wa, hwa⟩ : ∃ wa, U.alloc (.cells #[.int .i64 0, .int .i64 0, .int .i64 0, .int .i64 0, .int .i64 0, .int .i64 0] 39) = wa := ⟨_, rfl⟩
      rw [hwa] at HBa HT hHeldA ⊢
      obtain ⟨Bq, hBq'⟩ : ∃ Bq, U.heap.size = Bq := ⟨_, rfl⟩
      rw [hBq'] at HT hBq ⊢
      clear hwa hBq'
      clear hK K
      refine wpAnyH_ready (rs := [2]) (by kernel_rfl) (by simp) ?_
      refine AllReadyH.cons (o := _) rfl (fun K hK => ?_) AllReadyH.nil
      go_simp
      go_at_call 20
      refine (whole_any 0 _).mono ?_
      rintro e w1 ⟨rfl, hb⟩
      have HB1 := Lib.hid (HBa.out.trans (hb.mono HBa.out.size))
      have HT := Lib.hid (HT.out.below HT.out.lt hb)
      clear hb
      refine hK.out _ _ HB1.out (fun hHeldw1 => ?_)
      clear hK K
      refine wpAnyH_ready (rs := [3]) (by kernel_rfl) (by simp) ?_
      refine AllReadyH.cons (o := _) rfl (fun K hK => ?_) AllReadyH.nil
      go_simp
      go_at_call 20
      refine (whole_any 0 _).mono ?_
      rintro e w2 ⟨rfl, hb⟩
      have HB2 := Lib.hid (HB1.out.trans (hb.mono HB1.out.size))
      have HT := Lib.hid (HT.out.below HT.out.lt hb)
      clear hb
      refine hK.out _ _ HB2.out (fun hHeldw2 => ?_)
      clear hK K
      refine wpAnyH_takeD (i := 4) (v := ?_) 25 rfl (by kernel_rfl) (by kernel_rfl) (by kernel_rfl) (fun _ _ _ h => h) (Or.inl ⟨by rfl, ?_⟩) (by assumption) rfl ?_
      rotate_left
      · intro w' hSw
        go_simp <;> with_reducible rfl
      simp only [List.setIfInBounds_toArray, List.set_cons_succ, List.set_cons_zero]
      have f0 := HT.out.frozen 0
      have f1 := HT.out.frozen 1
      have f2 := HT.out.frozen 2
      have f3 := HT.out.frozen 3
      have f4 := HT.out.frozen 4
      have f5 := HT.out.frozen 5
      have q0 := HT.out.cell 0 _ rfl
      have q1 := HT.out.cell 1 _ rfl
      have q2 := HT.out.cell 2 _ rfl
      have q3 := HT.out.cell 3 _ rfl
      have q4 := HT.out.cell 4 _ rfl
      have q5 := HT.out.cell 5 _ rfl
      refine wpAnyH_ready (rs := [6]) (by kernel_rfl) (by simp) ?_
      refine AllReadyH.cons (o := _) rfl (fun K hK => ?_) AllReadyH.nil
      go_simp
      have HT9 := Lib.hid ((((((HT.out.setAt 0 (.int .i64 PN)).setAt 1 (.int .i64 PD)).setAt 2 (.int .i64 0)).setAt 3 (.int .i64 1)).setAt 4 (.int .i64 0)).setAt 5 (.int .i64 1))
      have hgs := ((((((grown_set w2 Bq 0 (.int .i64 PN)).trans (grown_set _ Bq 1 (.int .i64 PD))).trans (grown_set _ Bq 2 (.int .i64 0))).trans (grown_set _ Bq 3 (.int .i64 1))).trans (grown_set _ Bq 4 (.int .i64 0))).trans (grown_set _ Bq 5 (.int .i64 1)))
      have HB9 := Lib.hid (HB2.out.grown hgs (by have := HB2.out.size; omega) (fun j e => by cases e; omega))
      refine hK.out _ _ HB9.out (fun hHeld9 => ?_)
      clear hK K
      refine wpAnyH_done (by kernel_rfl) ?_ _
      go_wp2
      go_meet
      exact ⟨Bq, _, rfl, rfl, hBq, HT9.out, HB9.out⟩
  case rest =>
    obtain ⟨Bq, Wc, rfl, rfl, hBq, hD, hB⟩ := hcut
    obtain ⟨Xb, Xl, Xo, Xz⟩ := HX.out _ hB
    have l4 := Xl.cell 4 _ rfl
    have l5 := Xl.cell 5 _ rfl
    have l6 := Xl.cell 6 _ rfl
    have l7 := Xl.cell 7 _ rfl
    have b0 := Xb.cell 0 _ rfl
    have b1 := Xb.cell 1 _ rfl
    have o0 := Xo.cell 0 _ rfl
    have o1 := Xo.cell 1 _ rfl
    have o2 := Xo.cell 2 _ rfl
    have o3 := Xo.cell 3 _ rfl
    have hBqs := hD.lt
    go_upto_region 6 with fail
    have hB6 : Below V.heap.size V (((Wc.alloc (.cells #[.int .i64 FY, .int .i64 FM, .bool FS, .int .i64 FD] 29)).alloc (.cells #[.int .i64 0] 34)).alloc (.cells #[.func (.func 31) #[] #[.pointer (some ⟨Wc.heap.size + 1, 0, none⟩)]] 80)) := ((hB.alloc hB.size _).alloc (by have := hB.size; simp; omega) _).alloc (by have := hB.size; simp; omega) _
    have D6 := ((hD.alloc (.cells #[.int .i64 FY, .int .i64 FM, .bool FS, .int .i64 FD] 29)).alloc (.cells #[.int .i64 0] 34)).alloc (.cells #[.func (.func 31) #[] #[.pointer (some ⟨Wc.heap.size + 1, 0, none⟩)]] 80)
    have Y1 := ((Cel.new Wc 29 #[.int .i64 FY, .int .i64 FM, .bool FS, .int .i64 FD]).alloc (.cells #[.int .i64 0] 34)).alloc (.cells #[.func (.func 31) #[] #[.pointer (some ⟨Wc.heap.size + 1, 0, none⟩)]] 80)
    have Y2 := (Cel.new (Wc.alloc (.cells #[.int .i64 FY, .int .i64 FM, .bool FS, .int .i64 FD] 29)) 34 #[.int .i64 0]).alloc (.cells #[.func (.func 31) #[] #[.pointer (some ⟨Wc.heap.size + 1, 0, none⟩)]] 80)
    have Y3 := Cel.new ((Wc.alloc (.cells #[.int .i64 FY, .int .i64 FM, .bool FS, .int .i64 FD] 29)).alloc (.cells #[.int .i64 0] 34)) 80 #[.func (.func 31) #[] #[.pointer (some ⟨Wc.heap.size + 1, 0, none⟩)]]
    simp only [World.size_alloc] at Y2 Y3
    obtain ⟨W6, hW6⟩ : ∃ W6, ((Wc.alloc (.cells #[.int .i64 FY, .int .i64 FM, .bool FS, .int .i64 FD] 29)).alloc (.cells #[.int .i64 0] 34)).alloc (.cells #[.func (.func 31) #[] #[.pointer (some ⟨Wc.heap.size + 1, 0, none⟩)]] 80) = W6 := ⟨_, rfl⟩
    rw [hW6] at hB6 D6 Y1 Y2 Y3 ⊢
    obtain ⟨Bfr, hBfr⟩ : ∃ Bfr, Wc.heap.size = Bfr := ⟨_, rfl⟩
    rw [hBfr] at Y1 Y2 Y3 hBqs ⊢
    clear hW6 hBfr Xb Xl Xo Xz l4 l5 l6 l7 b0 b1 o0 o1 o2 o3 hD hB hmf
    obtain ⟨Xb, Xl, Xo, Xz⟩ := HX.out _ hB6
    have b0 := Xb.cell 0 _ rfl
    have b1 := Xb.cell 1 _ rfl
    have o0 := Xo.cell 0 _ rfl
    have o1 := Xo.cell 1 _ rfl
    have o2 := Xo.cell 2 _ rfl
    have o3 := Xo.cell 3 _ rfl
    have HB6 := Lib.hid hB6
    have hVw : w.heap.size ≤ V.heap.size := by omega
    go_wp2_with (go_at_call 15; refine (HDAY.out _ (HCZ.out _ (HV.out.trans (HB6.out.mono hVw))).1).mono ?_; rintro e W7 ⟨rfl, hb7⟩)
    have HB7 := Lib.hid (HB6.out.trans (hb7.mono HB6.out.size))
    have D7 := D6.below D6.lt hb7
    have Z1 := Y1.below Y1.lt hb7
    have Z2 := Y2.below Y2.lt hb7
    have Z3 := Y3.below Y3.lt hb7
    clear b0 b1 o0 o1 o2 o3 hb7 D6 Y1 Y2 Y3 hB6 Xb Xl Xo Xz
    obtain ⟨Xb, Xl, Xo, Xz⟩ := HX.out _ HB7.out
    go_loopw [35] (fun ti wr => ti = .int .i64 0 ∧ wr = W7) (fun _ _ => 0)
    case atStart => exact ⟨rfl, rfl⟩
    case round =>
      obtain ⟨rfl, rfl⟩ := hrel
      have e0 := Z2.cell 0 _ rfl
      have o0 := Xo.cell 0 _ rfl
      have o1 := Xo.cell 1 _ rfl
      have o2 := Xo.cell 2 _ rfl
      have o3 := Xo.cell 3 _ rfl
      have HACC := Lib.hid (HAC.out (Bfr + 1 + 1) Bq Bfr (Bfr + 1) wr (HV.out.trans (HB7.out.mono hVw)) (by omega) (by omega) (by omega) (by omega) (by omega) Z3 Xl Xb Z1 D7 Z2)
      clear HAC Z1 Z2 Z3 D7 Xb Xl Xo
      have HXz := Lib.hid Xz
      have HB7' := Lib.hid (HV.out.trans (HB7.out.mono hVw))
      clear Xz
      go_upto_region 24 with (go_at_call 32; refine HACC.out.mono ?_; rintro e W8 ⟨rfl, hb8, hres⟩)
      have Xz := HXz.out.below (by omega) hb8
      have hB8 := HB7'.out.trans (hb8.mono (by omega))
      clear HACC e0 o0 o1 o2 o3 hb8
      have hsz8 : w.heap.size + 4 ≤ W8.heap.size := by have := Xz.lt; have := hB8.size; omega
      rcases hres with ⟨h0, hd, he⟩ | ⟨h0, he⟩
      · have HR := Lib.hid (show owedV PN PD ⟨rn, rd, re⟩ = .tuple #[.agg #[.int .i64 PN, .int .i64 PD, .int .i64 rn, .int .i64 rd, .int .i64 0, .int .i64 1], .int .i64 0] from if_pos h0)
        clear h0
        have e0 := he.cell 0 _ rfl
        have d0 := hd.cell 0 _ rfl
        have d1 := hd.cell 1 _ rfl
        have d2 := hd.cell 2 _ rfl
        have d3 := hd.cell 3 _ rfl
        have d4 := hd.cell 4 _ rfl
        have d5 := hd.cell 5 _ rfl
        have z0 := Xz.cell 0 _ rfl
        have z1 := Xz.cell 1 _ rfl
        have z2 := Xz.cell 2 _ rfl
        have z3 := Xz.cell 3 _ rfl
        have z4 := Xz.cell 4 _ rfl
        have z5 := Xz.cell 5 _ rfl
        have f0 := Xz.frozen 0
        have f1 := Xz.frozen 1
        have f2 := Xz.frozen 2
        have f3 := Xz.frozen 3
        have f4 := Xz.frozen 4
        have f5 := Xz.frozen 5
        go_wp2
        have U := (((((Xz.setAt 0 (.int .i64 PN)).setAt 1 (.int .i64 PD)).setAt 2 (.int .i64 rn)).setAt 3 (.int .i64 rd)).setAt 4 (.int .i64 0)).setAt 5 (.int .i64 1)
        have u0 := U.cell 0 _ rfl
        have u1 := U.cell 1 _ rfl
        have u2 := U.cell 2 _ rfl
        have u3 := U.cell 3 _ rfl
        have u4 := U.cell 4 _ rfl
        have u5 := U.cell 5 _ rfl
        exact bodyPost_ret (v := .tuple #[.agg #[.int .i64 PN, .int .i64 PD, .int .i64 rn, .int .i64 rd, .int .i64 0, .int .i64 1], .int .i64 0]) (by simp [results, Tryd.results16, go_sem, u0, u1, u2, u3, u4, u5]) rfl
          ⟨by rw [HR.out], (((((hB8.setCell (p := ⟨w.heap.size + 1 + 1 + 1, 0, none⟩) (by simp; omega) _).setCell (p := ⟨w.heap.size + 1 + 1 + 1, 1, none⟩) (by simp; omega) _).setCell (p := ⟨w.heap.size + 1 + 1 + 1, 2, none⟩) (by simp; omega) _).setCell (p := ⟨w.heap.size + 1 + 1 + 1, 3, none⟩) (by simp; omega) _).setCell (p := ⟨w.heap.size + 1 + 1 + 1, 4, none⟩) (by simp; omega) _).setCell (p := ⟨w.heap.size + 1 + 1 + 1, 5, none⟩) (by simp; omega) _⟩
      · have HR := Lib.hid (show owedV PN PD ⟨rn, rd, re⟩ = .tuple #[.agg #[.int .i64 0, .int .i64 0, .int .i64 0, .int .i64 0, .int .i64 0, .int .i64 0], .int .i64 re] from if_neg h0)
        have h0' : (re != 0) = true := by simpa using h0
        have h0'' : (re == 0) = false := beq_eq_false_iff_ne.2 h0
        clear h0
        have e0 := he.cell 0 _ rfl
        go_upto_region 25 with fail
        have hB9 := (show Below W8.heap.size W8 W8.drew from below_drew (Below.refl _ _))
        refine wp_region_held_drew (S := fun w' => Cel w' (Bfr + 1) 34 #[.int .i64 re]) (by kernel_rfl) (he.below he.lt hB9) (fun hHeld => ?_)
        have Xz9 := Xz.below Xz.lt hB9
        have hB9' := hB8.trans (hB9.mono hB8.size)
        obtain ⟨U, hU⟩ : ∃ U, W8.drew = U := ⟨_, rfl⟩
        rw [hU] at Xz9 hB9' hHeld ⊢
        clear hU hB9 e0
        refine wpAnyH_takeD (i := 0) (v := ?_) 92 rfl (by kernel_rfl) (by kernel_rfl) (by kernel_rfl) (fun _ _ _ h => h) (Or.inl ⟨by rfl, ?_⟩) (by assumption) rfl ?_
        rotate_left
        · intro w' hSw
          have e0 := hSw.cell 0 _ rfl
          go_simp <;> with_reducible rfl
        simp only [List.setIfInBounds_toArray, List.set_cons_succ, List.set_cons_zero]
        refine wpAnyH_takeD (i := 1) (v := ?_) 93 rfl (by kernel_rfl) (by kernel_rfl) (by kernel_rfl) (fun _ _ _ h => h) (Or.inl ⟨by rfl, ?_⟩) (by assumption) rfl ?_
        rotate_left
        · intro w' hSw
          have e0 := hSw.cell 0 _ rfl
          go_simp <;> with_reducible rfl
        simp only [List.setIfInBounds_toArray, List.set_cons_succ, List.set_cons_zero]
        have z0 := Xz9.cell 0 _ rfl
        have f0 := Xz9.frozen 0
        have z1 := Xz9.cell 1 _ rfl
        have f1 := Xz9.frozen 1
        have z2 := Xz9.cell 2 _ rfl
        have f2 := Xz9.frozen 2
        have z3 := Xz9.cell 3 _ rfl
        have f3 := Xz9.frozen 3
        have z4 := Xz9.cell 4 _ rfl
        have f4 := Xz9.frozen 4
        have z5 := Xz9.cell 5 _ rfl
        have f5 := Xz9.frozen 5
        refine wpAnyH_ready (rs := [2]) (by kernel_rfl) (by simp) ?_
        refine AllReadyH.cons (o := _) rfl (fun K hK => ?_) AllReadyH.nil
        go_simp
        have hgs := ((((((grown_set U (w.heap.size + 1 + 1 + 1) 0 (.int .i64 0)).trans (grown_set _ (w.heap.size + 1 + 1 + 1) 1 (.int .i64 0))).trans (grown_set _ (w.heap.size + 1 + 1 + 1) 2 (.int .i64 0))).trans (grown_set _ (w.heap.size + 1 + 1 + 1) 3 (.int .i64 0))).trans (grown_set _ (w.heap.size + 1 + 1 + 1) 4 (.int .i64 0))).trans (grown_set _ (w.heap.size + 1 + 1 + 1) 5 (.int .i64 0)))
        have HT9 := Lib.hid ((((((Xz9.setAt 0 (.int .i64 0)).setAt 1 (.int .i64 0)).setAt 2 (.int .i64 0)).setAt 3 (.int .i64 0)).setAt 4 (.int .i64 0)).setAt 5 (.int .i64 0))
        have HB10 := Lib.hid (hB9'.grown hgs (by have := hB9'.size; omega) (fun j e => by cases e; omega))
        refine hK.out _ _ (hHeld.kept hgs (by simp; omega)) (fun hHeld2 => ?_)
        clear hK K
        refine wpAnyH_takeD (i := 3) (v := ?_) 9 rfl (by kernel_rfl) (by kernel_rfl) (by kernel_rfl) (fun _ _ _ h => h) (Or.inl ⟨by rfl, ?_⟩) (by assumption) rfl ?_
        rotate_left
        · intro w' hSw
          go_simp <;> with_reducible rfl
        simp only [List.setIfInBounds_toArray, List.set_cons_succ, List.set_cons_zero]
        refine wpAnyH_done (by kernel_rfl) ?_ _
        go_wp2
        have u0 := HT9.out.cell 0 _ rfl
        have u1 := HT9.out.cell 1 _ rfl
        have u2 := HT9.out.cell 2 _ rfl
        have u3 := HT9.out.cell 3 _ rfl
        have u4 := HT9.out.cell 4 _ rfl
        have u5 := HT9.out.cell 5 _ rfl
        exact bodyPost_ret (v := .tuple #[.agg #[.int .i64 0, .int .i64 0, .int .i64 0, .int .i64 0, .int .i64 0, .int .i64 0], .int .i64 re]) (by simp [results, Tryd.results16, go_sem, u0, u1, u2, u3, u4, u5]) rfl ⟨by rw [HR.out], HB10.out⟩
end Go.Proofs.YthpjeclhignciaaDoor
