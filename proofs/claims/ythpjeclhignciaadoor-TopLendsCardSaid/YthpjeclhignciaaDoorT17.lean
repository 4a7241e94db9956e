/- Walks of the package ledger: accrue, the closure of owed. Conditions: those stated. -/
import Derived.Test.YthpjeclhignciaaDoorT16
import Derived.Test.YthpjeclhignciaaDoorTB
namespace Go.Proofs.YthpjeclhignciaaDoor
open Go Go.RowKit Go.Shelf
attribute [local go_sem] Oper.semAt_some rrV

/-- What accrue reads and never writes. -/
structure AcS (Bf Bl Bb Bfr Bto Be : Nat) (PN PD RN RD FY FM FD : Int) (FS : Bool) (TY TM TD : Int) (TS : Bool) (Ak Ay : Option Addr) (nk ck ny cy : Nat) (w : World) : Prop where
  func : Cel w Bf 80 #[.func (.func 31) #[] #[.pointer (some ⟨Be, 0, none⟩)]]
  loan : Cel w Bl 31 #[.int .i64 PN, .int .i64 PD, .int .i64 RN, .int .i64 RD, .int .i64 FY, .int .i64 FM, .bool FS, .int .i64 FD]
  book : Cel w Bb 54 #[.slice Ak nk ck, .slice Ay ny cy]
  from_ : Cel w Bfr 29 #[.int .i64 FY, .int .i64 FM, .bool FS, .int .i64 FD]
  dest : Cel w Bto 29 #[.int .i64 TY, .int .i64 TM, .bool TS, .int .i64 TD]
section
variable {Bf Bl Bb Bfr Bto Be : Nat} {PN PD RN RD FY FM FD : Int} {FS : Bool} {TY TM TD : Int} {TS : Bool} {Ak Ay : Option Addr} {nk ck ny cy : Nat} {a b : World}
theorem AcS.below (h : AcS Bf Bl Bb Bfr Bto Be PN PD RN RD FY FM FD FS TY TM TD TS Ak Ay nk ck ny cy a) (hb : Below a.heap.size a b) : AcS Bf Bl Bb Bfr Bto Be PN PD RN RD FY FM FD FS TY TM TD TS Ak Ay nk ck ny cy b :=
  ⟨h.func.below h.func.lt hb, h.loan.below h.loan.lt hb, h.book.below h.book.lt hb, h.from_.below h.from_.lt hb, h.dest.below h.dest.lt hb⟩
theorem AcS.grown (h : AcS Bf Bl Bb Bfr Bto Be PN PD RN RD FY FM FD FS TY TM TD TS Ak Ay nk ck ny cy a) {q : Nat} (hg : a.grownBy b (some q)) (h1 : Bf ≠ q) (h2 : Bl ≠ q) (h3 : Bb ≠ q) (h4 : Bfr ≠ q) (h5 : Bto ≠ q) : AcS Bf Bl Bb Bfr Bto Be PN PD RN RD FY FM FD FS TY TM TD TS Ak Ay nk ck ny cy b :=
  ⟨h.func.kept hg (by simp [h1]), h.loan.kept hg (by simp [h2]), h.book.kept hg (by simp [h3]), h.from_.kept hg (by simp [h4]), h.dest.kept hg (by simp [h5])⟩
end
theorem fit_zero_add {q : Rat} (h : (fit q).e = 0) : fit (rat 0 1 + rat (fit q).n (fit q).d) = ⟨(fit q).n, (fit q).d, 0⟩ := by
  obtain ⟨h1, h2⟩ := fit_isR h
  have e : rat 0 1 = 0 := by unfold rat; rw [Rat.div_def]; have : ((0 : Int) : Rat) = 0 := rfl; rw [this]; grind
  rw [e, h2, Rat.zero_add]
  have : fit q = ⟨(fit q).n, (fit q).d, (fit q).e⟩ := rfl
  rw [h] at this
  exact this

set_option maxRecDepth 100000 in
set_option maxHeartbeats 4000000 in
theorem accrue_any (Bf Bl Bb Bfr Bq Be : Nat) (PN PD RN RD FY FM FD : Int) (FS : Bool) (TY TM TD : Int) (TS : Bool) (Ak Ay : Option Addr) (nk ck ny cy : Nat) (ks : List ByteArray) (ys : List Yr) (kf kt : Nat) (mf mt : Mo) (base : Nat) (w : World)
    (h1 : Bb < Bl) (h2 : Bl < Bq) (h3 : Bq < Bfr) (h4 : Bfr < Be) (h5 : Be < Bf) (hbase : base ≤ Bq)
    (hfn : Cel w Bf 80 #[.func (.func 31) #[] #[.pointer (some ⟨Be, 0, none⟩)]]) (hln : Cel w Bl 31 #[.int .i64 PN, .int .i64 PD, .int .i64 RN, .int .i64 RD, .int .i64 FY, .int .i64 FM, .bool FS, .int .i64 FD]) (hbk : Cel w Bb 54 #[.slice Ak nk ck, .slice Ay ny cy]) (hfr : Cel w Bfr 29 #[.int .i64 FY, .int .i64 FM, .bool FS, .int .i64 FD])
    (hdb : Cel w Bq 39 #[.int .i64 PN, .int .i64 PD, .int .i64 0, .int .i64 1, .int .i64 0, .int .i64 1]) (he : Cel w Be 34 #[.int .i64 0])
    (hcz : ∀ w', Below base w w' → CalW w' (.agg #[.slice Ak nk ck, .slice Ay ny cy]) ks ys ∧ Zw w')
    (hP : nnR (PN, PD) = true) (hR : nnR (RN, RD) = true) (hif : InC ks ys ⟨FY, FM, FS, FD⟩ kf mf) (hit : InC ks ys ⟨TY, TM, TS, TD⟩ kt mt)
    (hs1 : 0 ≤ schemeF kf kt ⟨FY, FM, FS, FD⟩ ⟨TY, TM, TS, TD⟩) (r : RR) (hr : fit (intQ PN PD RN RD (schemeF kf kt ⟨FY, FM, FS, FD⟩ ⟨TY, TM, TS, TD⟩)) = r) :
    Calls Tryd.prog 32 #[.agg #[.int .i64 TY, .int .i64 TM, .bool TS, .int .i64 TD], .pointer (some ⟨Bf, 0, none⟩), .pointer (some ⟨Bq, 0, none⟩), .pointer (some ⟨Bl, 0, none⟩), .pointer (some ⟨Bb, 0, none⟩), .pointer (some ⟨Bfr, 0, none⟩), .pointer (some ⟨Be, 0, none⟩)] w fun e w' =>
      e = .returned (.tuple #[]) ∧ Below base w w' ∧ ((r.e = 0 ∧ Cel w' Bq 39 #[.int .i64 PN, .int .i64 PD, .int .i64 r.n, .int .i64 r.d, .int .i64 0, .int .i64 1] ∧ Cel w' Be 34 #[.int .i64 0]) ∨ (r.e ≠ 0 ∧ Cel w' Be 34 #[.int .i64 r.e])) := by
  have hs2 : schemeF kf kt ⟨FY, FM, FS, FD⟩ ⟨TY, TM, TS, TD⟩ ≤ 1099511627776 := by
    have a := hif.bd
    have b := hit.bd
    unfold schemeF
    simp only at *
    omega
  have lb := hfn.lt
  have hB0 := below_alloc' w (.cells #[.int .i64 TY, .int .i64 TM, .bool TS, .int .i64 TD] 29)
  have hbs : base ≤ w.heap.size := by omega
  have hS0 : AcS Bf Bl Bb Bfr w.heap.size Be PN PD RN RD FY FM FD FS TY TM TD TS Ak Ay nk ck ny cy (w.alloc (.cells #[.int .i64 TY, .int .i64 TM, .bool TS, .int .i64 TD] 29)) :=
    ⟨hfn.alloc _, hln.alloc _, hbk.alloc _, hfr.alloc _, Cel.new w _ _⟩
  have hd0 := hdb.alloc (.cells #[.int .i64 TY, .int .i64 TM, .bool TS, .int .i64 TD] 29)
  have he0 := he.alloc (.cells #[.int .i64 TY, .int .i64 TM, .bool TS, .int .i64 TD] 29)
  have hbt0 := fun w' (h : CalW w' (.agg #[.slice Ak nk ck, .slice Ay ny cy]) ks ys) => between_yes (.slice Ak nk ck) (.slice Ay ny cy) ks ys ⟨FY, FM, FS, FD⟩ ⟨TY, TM, TS, TD⟩ kf kt mf mt w' h hif hit
  have hin0 := fun w' (h : Zw w') => Interest_any PN PD RN RD (schemeF kf kt ⟨FY, FM, FS, FD⟩ ⟨TY, TM, TS, TD⟩) w' h hP hR hs1 hs2
  rw [hr] at hin0
  have hadd : Hid (r.e = 0 → ∀ w', Zw w' → Calls Tryd.prog 10 #[.agg #[.int .i64 0, .int .i64 1], .agg #[.int .i64 r.n, .int .i64 r.d]] w' fun e w'' => e = .returned (rrV ⟨r.n, r.d, 0⟩) ∧ Below w'.heap.size w' w'') := by
    intro h0 w' hz
    have h0' := h0
    rw [← hr] at h0'
    obtain ⟨i1, i2⟩ := fit_isR h0'
    have z := fit_zero_add h0'
    rw [hr] at i1 z
    have b := isR_bd i1
    have := add_any 0 1 r.n r.d w' hz (by unfold Bd; omega) (by unfold Bd; omega) (by unfold Bd; omega) (by unfold Bd; omega)
    rw [opF_yes (show isR 0 1 = true by decide +kernel) i1, z] at this
    exact this
  simp only [dtA] at hbt0
  clear hr
  generalize schemeF kf kt ⟨FY, FM, FS, FD⟩ ⟨TY, TM, TS, TD⟩ = sd at *
  have HIF := Lib.hid hif
  clear hif hit hs1 hs2 hP hR hfn hln hbk hfr hdb he
  obtain ⟨rn, rd, re⟩ := r
  simp only at hadd ⊢
  go_enter Tryd.func32, Tryd.ntmps32
  go_wp2
  obtain ⟨V, hV⟩ : ∃ V, w.alloc (.cells #[.int .i64 TY, .int .i64 TM, .bool TS, .int .i64 TD] 29) = V := ⟨_, rfl⟩
  rw [hV] at hB0 hS0 hd0 he0 ⊢
  have hVs : w.heap.size < V.heap.size := by rw [← hV]; simp
  clear hV
  have HCZ := Lib.hid (fun w' (h : Below base V w') => hcz w' ((hB0.mono hbs).trans h))
  have HBT := Lib.hid (fun w' (h : Below V.heap.size V w') => hbt0 w' (HCZ.out w' (h.mono (by omega))).1)
  have HIN := Lib.hid (fun w' (h : Below V.heap.size V w') => hin0 w' (HCZ.out w' (h.mono (by omega))).2)
  have HDE := Lib.hid (fun w' (h : Below V.heap.size V w') => (⟨hd0.below hd0.lt h, he0.below he0.lt h⟩ : Cel w' Bq 39 #[.int .i64 PN, .int .i64 PD, .int .i64 0, .int .i64 1, .int .i64 0, .int .i64 1] ∧ Cel w' Be 34 #[.int .i64 0]))
  have HSB := Lib.hid (fun w' (h : Below V.heap.size V w') => (⟨hS0.below h, hd0.below hd0.lt h⟩ : AcS Bf Bl Bb Bfr w.heap.size Be PN PD RN RD FY FM FD FS TY TM TD TS Ak Ay nk ck ny cy w' ∧ Cel w' Bq 39 #[.int .i64 PN, .int .i64 PD, .int .i64 0, .int .i64 1, .int .i64 0, .int .i64 1]))
  have HV := Lib.hid hB0
  have HBA := Lib.hid hbs
  clear hcz hbt0 hin0 hd0 he0 hS0 hB0
  go_upto_region 1 with fail
  go_cut [8] (fun t8 wx => ∃ (B8 : Nat) (Wc : World), Wc = wx ∧ t8 = .pointer (some ⟨B8, 0, none⟩) ∧ V.heap.size ≤ B8 ∧ Cel wx B8 27 #[.int .i64 rn, .int .i64 rd] ∧ AcS Bf Bl Bb Bfr w.heap.size Be PN PD RN RD FY FM FD FS TY TM TD TS Ak Ay nk ck ny cy wx ∧ Cel wx Bq 39 #[.int .i64 PN, .int .i64 PD, .int .i64 0, .int .i64 1, .int .i64 0, .int .i64 1] ∧ Cel wx Be 34 #[.int .i64 re] ∧ Below base V wx)
  case first =>
    have HB0 := Lib.hid (show Below V.heap.size V V.drew from below_drew (Below.refl _ _))
    refine wp_region_held_drew (S := fun w' => AcS Bf Bl Bb Bfr w.heap.size Be PN PD RN RD FY FM FD FS TY TM TD TS Ak Ay nk ck ny cy w' ∧ Cel w' Bq 39 #[.int .i64 PN, .int .i64 PD, .int .i64 0, .int .i64 1, .int .i64 0, .int .i64 1]) (by kernel_rfl) (HSB.out _ (below_drew (Below.refl _ _))) (fun hHeld => ?_)
    obtain ⟨U, hU⟩ : ∃ U, V.drew = U := ⟨_, rfl⟩
    rw [hU] at HB0 hHeld ⊢
    clear hU
    refine wpAnyH_takeD (i := 0) (v := ?_) 9 rfl (by kernel_rfl) (by kernel_rfl) (by kernel_rfl) (fun _ _ _ h => h) (Or.inl ⟨by rfl, ?_⟩) (by assumption) rfl ?_
    rotate_left
    · intro w' hSw
      obtain ⟨hSw, hSd⟩ := hSw; have d0 := hSd.cell 0 _ rfl; have d1 := hSd.cell 1 _ rfl; have c0 := hSw.func.cell 0 _ rfl; have l0 := hSw.loan.cell 0 _ rfl; have l1 := hSw.loan.cell 1 _ rfl; have l2 := hSw.loan.cell 2 _ rfl; have l3 := hSw.loan.cell 3 _ rfl; have b0 := hSw.book.cell 0 _ rfl; have b1 := hSw.book.cell 1 _ rfl; have g0 := hSw.from_.cell 0 _ rfl; have g1 := hSw.from_.cell 1 _ rfl; have g2 := hSw.from_.cell 2 _ rfl; have g3 := hSw.from_.cell 3 _ rfl; have t0 := hSw.dest.cell 0 _ rfl; have t1 := hSw.dest.cell 1 _ rfl; have t2 := hSw.dest.cell 2 _ rfl; have t3 := hSw.dest.cell 3 _ rfl
      go_simp <;> with_reducible rfl
    simp only [List.setIfInBounds_toArray, List.set_cons_succ, List.set_cons_zero]
    refine wpAnyH_takeD (i := 1) (v := ?_) 10 rfl (by kernel_rfl) (by kernel_rfl) (by kernel_rfl) (fun _ _ _ h => h) (Or.inl ⟨by rfl, ?_⟩) (by assumption) rfl ?_
    rotate_left
    · intro w' hSw
      obtain ⟨hSw, hSd⟩ := hSw; have d0 := hSd.cell 0 _ rfl; have d1 := hSd.cell 1 _ rfl; have c0 := hSw.func.cell 0 _ rfl; have l0 := hSw.loan.cell 0 _ rfl; have l1 := hSw.loan.cell 1 _ rfl; have l2 := hSw.loan.cell 2 _ rfl; have l3 := hSw.loan.cell 3 _ rfl; have b0 := hSw.book.cell 0 _ rfl; have b1 := hSw.book.cell 1 _ rfl; have g0 := hSw.from_.cell 0 _ rfl; have g1 := hSw.from_.cell 1 _ rfl; have g2 := hSw.from_.cell 2 _ rfl; have g3 := hSw.from_.cell 3 _ rfl; have t0 := hSw.dest.cell 0 _ rfl; have t1 := hSw.dest.cell 1 _ rfl; have t2 := hSw.dest.cell 2 _ rfl; have t3 := hSw.dest.cell 3 _ rfl
      go_simp <;> with_reducible rfl
    simp only [List.setIfInBounds_toArray, List.set_cons_succ, List.set_cons_zero]
    refine wpAnyH_takeD (i := 2) (v := ?_) 11 rfl (by kernel_rfl) (by kernel_rfl) (by kernel_rfl) (fun _ _ _ h => h) (Or.inl ⟨by rfl, ?_⟩) (by assumption) rfl ?_
    rotate_left
    · intro w' hSw
      obtain ⟨hSw, hSd⟩ := hSw; have d0 := hSd.cell 0 _ rfl; have d1 := hSd.cell 1 _ rfl; have c0 := hSw.func.cell 0 _ rfl; have l0 := hSw.loan.cell 0 _ rfl; have l1 := hSw.loan.cell 1 _ rfl; have l2 := hSw.loan.cell 2 _ rfl; have l3 := hSw.loan.cell 3 _ rfl; have b0 := hSw.book.cell 0 _ rfl; have b1 := hSw.book.cell 1 _ rfl; have g0 := hSw.from_.cell 0 _ rfl; have g1 := hSw.from_.cell 1 _ rfl; have g2 := hSw.from_.cell 2 _ rfl; have g3 := hSw.from_.cell 3 _ rfl; have t0 := hSw.dest.cell 0 _ rfl; have t1 := hSw.dest.cell 1 _ rfl; have t2 := hSw.dest.cell 2 _ rfl; have t3 := hSw.dest.cell 3 _ rfl
      go_simp <;> with_reducible rfl
    simp only [List.setIfInBounds_toArray, List.set_cons_succ, List.set_cons_zero]
    refine wpAnyH_takeD (i := 3) (v := ?_) 12 rfl (by kernel_rfl) (by kernel_rfl) (by kernel_rfl) (fun _ _ _ h => h) (Or.inl ⟨by rfl, ?_⟩) (by assumption) rfl ?_
    rotate_left
    · intro w' hSw
      obtain ⟨hSw, hSd⟩ := hSw; have d0 := hSd.cell 0 _ rfl; have d1 := hSd.cell 1 _ rfl; have c0 := hSw.func.cell 0 _ rfl; have l0 := hSw.loan.cell 0 _ rfl; have l1 := hSw.loan.cell 1 _ rfl; have l2 := hSw.loan.cell 2 _ rfl; have l3 := hSw.loan.cell 3 _ rfl; have b0 := hSw.book.cell 0 _ rfl; have b1 := hSw.book.cell 1 _ rfl; have g0 := hSw.from_.cell 0 _ rfl; have g1 := hSw.from_.cell 1 _ rfl; have g2 := hSw.from_.cell 2 _ rfl; have g3 := hSw.from_.cell 3 _ rfl; have t0 := hSw.dest.cell 0 _ rfl; have t1 := hSw.dest.cell 1 _ rfl; have t2 := hSw.dest.cell 2 _ rfl; have t3 := hSw.dest.cell 3 _ rfl
      go_simp <;> with_reducible rfl
    simp only [List.setIfInBounds_toArray, List.set_cons_succ, List.set_cons_zero]
    refine wpAnyH_takeD (i := 4) (v := ?_) 13 rfl (by kernel_rfl) (by kernel_rfl) (by kernel_rfl) (fun _ _ _ h => h) (Or.inl ⟨by rfl, ?_⟩) (by assumption) rfl ?_
    rotate_left
    · intro w' hSw
      obtain ⟨hSw, hSd⟩ := hSw; have d0 := hSd.cell 0 _ rfl; have d1 := hSd.cell 1 _ rfl; have c0 := hSw.func.cell 0 _ rfl; have l0 := hSw.loan.cell 0 _ rfl; have l1 := hSw.loan.cell 1 _ rfl; have l2 := hSw.loan.cell 2 _ rfl; have l3 := hSw.loan.cell 3 _ rfl; have b0 := hSw.book.cell 0 _ rfl; have b1 := hSw.book.cell 1 _ rfl; have g0 := hSw.from_.cell 0 _ rfl; have g1 := hSw.from_.cell 1 _ rfl; have g2 := hSw.from_.cell 2 _ rfl; have g3 := hSw.from_.cell 3 _ rfl; have t0 := hSw.dest.cell 0 _ rfl; have t1 := hSw.dest.cell 1 _ rfl; have t2 := hSw.dest.cell 2 _ rfl; have t3 := hSw.dest.cell 3 _ rfl
      go_simp <;> with_reducible rfl
    simp only [List.setIfInBounds_toArray, List.set_cons_succ, List.set_cons_zero]
    refine wpAnyH_takeD (i := 5) (v := ?_) 14 rfl (by kernel_rfl) (by kernel_rfl) (by kernel_rfl) (fun _ _ _ h => h) (Or.inl ⟨by rfl, ?_⟩) (by assumption) rfl ?_
    rotate_left
    · intro w' hSw
      obtain ⟨hSw, hSd⟩ := hSw; have d0 := hSd.cell 0 _ rfl; have d1 := hSd.cell 1 _ rfl; have c0 := hSw.func.cell 0 _ rfl; have l0 := hSw.loan.cell 0 _ rfl; have l1 := hSw.loan.cell 1 _ rfl; have l2 := hSw.loan.cell 2 _ rfl; have l3 := hSw.loan.cell 3 _ rfl; have b0 := hSw.book.cell 0 _ rfl; have b1 := hSw.book.cell 1 _ rfl; have g0 := hSw.from_.cell 0 _ rfl; have g1 := hSw.from_.cell 1 _ rfl; have g2 := hSw.from_.cell 2 _ rfl; have g3 := hSw.from_.cell 3 _ rfl; have t0 := hSw.dest.cell 0 _ rfl; have t1 := hSw.dest.cell 1 _ rfl; have t2 := hSw.dest.cell 2 _ rfl; have t3 := hSw.dest.cell 3 _ rfl
      go_simp <;> with_reducible rfl
    simp only [List.setIfInBounds_toArray, List.set_cons_succ, List.set_cons_zero]
    refine wpAnyH_takeD (i := 6) (v := ?_) 15 rfl (by kernel_rfl) (by kernel_rfl) (by kernel_rfl) (fun _ _ _ h => h) (Or.inl ⟨by rfl, ?_⟩) (by assumption) rfl ?_
    rotate_left
    · intro w' hSw
      obtain ⟨hSw, hSd⟩ := hSw; have d0 := hSd.cell 0 _ rfl; have d1 := hSd.cell 1 _ rfl; have c0 := hSw.func.cell 0 _ rfl; have l0 := hSw.loan.cell 0 _ rfl; have l1 := hSw.loan.cell 1 _ rfl; have l2 := hSw.loan.cell 2 _ rfl; have l3 := hSw.loan.cell 3 _ rfl; have b0 := hSw.book.cell 0 _ rfl; have b1 := hSw.book.cell 1 _ rfl; have g0 := hSw.from_.cell 0 _ rfl; have g1 := hSw.from_.cell 1 _ rfl; have g2 := hSw.from_.cell 2 _ rfl; have g3 := hSw.from_.cell 3 _ rfl; have t0 := hSw.dest.cell 0 _ rfl; have t1 := hSw.dest.cell 1 _ rfl; have t2 := hSw.dest.cell 2 _ rfl; have t3 := hSw.dest.cell 3 _ rfl
      go_simp <;> with_reducible rfl
    simp only [List.setIfInBounds_toArray, List.set_cons_succ, List.set_cons_zero]
    refine wpAnyH_takeD (i := 7) (v := ?_) 16 rfl (by kernel_rfl) (by kernel_rfl) (by kernel_rfl) (fun _ _ _ h => h) (Or.inl ⟨by rfl, ?_⟩) (by assumption) rfl ?_
    rotate_left
    · intro w' hSw
      obtain ⟨hSw, hSd⟩ := hSw; have d0 := hSd.cell 0 _ rfl; have d1 := hSd.cell 1 _ rfl; have c0 := hSw.func.cell 0 _ rfl; have l0 := hSw.loan.cell 0 _ rfl; have l1 := hSw.loan.cell 1 _ rfl; have l2 := hSw.loan.cell 2 _ rfl; have l3 := hSw.loan.cell 3 _ rfl; have b0 := hSw.book.cell 0 _ rfl; have b1 := hSw.book.cell 1 _ rfl; have g0 := hSw.from_.cell 0 _ rfl; have g1 := hSw.from_.cell 1 _ rfl; have g2 := hSw.from_.cell 2 _ rfl; have g3 := hSw.from_.cell 3 _ rfl; have t0 := hSw.dest.cell 0 _ rfl; have t1 := hSw.dest.cell 1 _ rfl; have t2 := hSw.dest.cell 2 _ rfl; have t3 := hSw.dest.cell 3 _ rfl
      go_simp <;> with_reducible rfl
    simp only [List.setIfInBounds_toArray, List.set_cons_succ, List.set_cons_zero]
    refine wpAnyH_ready (rs := [8, 13]) (by kernel_rfl) (by simp) ?_
    refine AllReadyH.cons (o := _) rfl (fun K hK => ?_) (AllReadyH.cons (o := _) rfl (fun K hK => ?_) AllReadyH.nil)
    · go_simp
      go_at_call 33
      refine (HBT.out _ HB0.out).mono ?_
      rintro e w1 ⟨rfl, hb⟩
      have HB1 := Lib.hid (HB0.out.trans (hb.mono HB0.out.size))
      clear hb
      refine hK.out _ _ (HSB.out _ HB1.out) (fun hHeldw1 => ?_)
      clear hK K
      refine wpAnyH_ready (rs := [9, 13]) (by kernel_rfl) (by simp) ?_
      refine AllReadyH.cons (o := _) rfl (fun K hK => ?_) (AllReadyH.cons (o := _) rfl (fun K hK => ?_) AllReadyH.nil)
      · go_simp
        go_at_call 9
        refine (HIN.out _ HB1.out).mono ?_
        rintro e w2 ⟨rfl, hb⟩
        have HB2 := Lib.hid (HB1.out.trans (hb.mono HB1.out.size))
        clear hb
        refine hK.out _ _ (HSB.out _ HB2.out) (fun hHeldw2 => ?_)
        clear hK K
        refine wpAnyH_takeD (i := 10) (v := ?_) 19 rfl (by kernel_rfl) (by kernel_rfl) (by kernel_rfl) (fun _ _ _ h => h) (Or.inl ⟨by rfl, ?_⟩) (by assumption) rfl ?_
        rotate_left
        · intro w' hSw
          go_simp <;> with_reducible rfl
        simp only [List.setIfInBounds_toArray, List.set_cons_succ, List.set_cons_zero]
        refine wpAnyH_takeD (i := 11) (v := ?_) 20 rfl (by kernel_rfl) (by kernel_rfl) (by kernel_rfl) (fun _ _ _ h => h) (Or.inl ⟨by rfl, ?_⟩) (by assumption) rfl ?_
        rotate_left
        · intro w' hSw
          go_simp <;> with_reducible rfl
        simp only [List.setIfInBounds_toArray, List.set_cons_succ, List.set_cons_zero]
        refine wpAnyH_ready (rs := [12, 13]) (by kernel_rfl) (by simp) ?_
        refine AllReadyH.cons (o := _) rfl (fun K hK => ?_) (AllReadyH.cons (o := _) rfl (fun K hK => ?_) AllReadyH.nil)
        · go_simp
          go_at_call 31
          refine (try_any rn rd re Be _ (HDE.out _ HB2.out).2).mono ?_
          rintro e w3 ⟨rfl, he3, hg3⟩
          have HE3 := Lib.hid he3
          have HD3 := Lib.hid ((HDE.out _ HB2.out).1.kept hg3 (by simp; omega))
          have HB3 := Lib.hid ((HB2.out.mono (show base ≤ V.heap.size by omega)).grown hg3 (by have := HB2.out.size; omega) (fun j e => by cases e; omega))
          have HS3 := Lib.hid ((HSB.out _ HB2.out).1.grown hg3 (by omega) (by omega) (by omega) (by omega) (by omega))
          clear he3 hg3
          refine hK.out _ _ ⟨HS3.out, HD3.out⟩ (fun hHeld3 => ?_)
          clear hK K
          refine wpAnyH_ready (rs := [13]) (by kernel_rfl) (by simp) ?_
          refine AllReadyH.cons (o := _) rfl (fun K hK => ?_) AllReadyH.nil
          go_simp
          have HT8 := Lib.hid (Cel.new w3 27 #[.int .i64 0, .int .i64 0])
          have hB8 : V.heap.size ≤ w3.heap.size := HB3.out.size
          have HB3 := Lib.hid (HB3.out.alloc (by have := HB3.out.size; have := HBA.out; omega) (.cells #[.int .i64 0, .int .i64 0] 27))
          have HS3 := Lib.hid (HS3.out.below (below_alloc' _ (.cells #[.int .i64 0, .int .i64 0] 27)))
          have HD3 := Lib.hid (HD3.out.alloc (.cells #[.int .i64 0, .int .i64 0] 27))
          have HE3 := Lib.hid (HE3.out.alloc (.cells #[.int .i64 0, .int .i64 0] 27))
          refine hK.out _ _ ⟨HS3.out, HD3.out⟩ (fun hHeldA => ?_)
          obtain ⟨wa, hwa⟩ : ∃ wa, w3.alloc (.cells #[.int .i64 0, .int .i64 0] 27) = wa := ⟨_, rfl⟩
          rw [hwa] at HB3 HT8 HS3 HD3 HE3 hHeldA ⊢
          obtain ⟨B8, hB8'⟩ : ∃ B8, w3.heap.size = B8 := ⟨_, rfl⟩
          rw [hB8'] at HT8 hB8 ⊢
          clear hwa hB8'
          clear hK K
          have f0 := HT8.out.frozen 0
          have f1 := HT8.out.frozen 1
          have q0 := HT8.out.cell 0 _ rfl
          have q1 := HT8.out.cell 1 _ rfl
          refine wpAnyH_ready (rs := [14]) (by kernel_rfl) (by simp) ?_
          refine AllReadyH.cons (o := _) rfl (fun K hK => ?_) AllReadyH.nil
          go_simp
          have hgs := (grown_set wa B8 0 (.int .i64 rn)).trans (grown_set _ B8 1 (.int .i64 rd))
          have HT9 := Lib.hid ((HT8.out.setAt 0 (.int .i64 rn)).setAt 1 (.int .i64 rd))
          have HS9 := Lib.hid (HS3.out.grown hgs (by omega) (by omega) (by omega) (by omega) (by omega))
          have HD9 := Lib.hid (HD3.out.kept hgs (by simp; omega))
          have HE9 := Lib.hid (HE3.out.kept hgs (by simp; omega))
          have HB9 := Lib.hid (HB3.out.grown hgs (by have := HB3.out.size; omega) (fun j e => by cases e; omega))
          refine hK.out _ _ ⟨HS9.out, HD9.out⟩ (fun hHeld9 => ?_)
          clear hK K
          refine wpAnyH_done (by kernel_rfl) ?_ _
          go_wp2
          go_meet
          exact ⟨B8, _, rfl, rfl, hB8, HT9.out, HS9.out, HD9.out, HE9.out, HB9.out⟩
        · go_simp
          have HBa := Lib.hid (HB2.out.alloc HB2.out.size (.cells #[.int .i64 0, .int .i64 0] 27))
          have HT8 := Lib.hid (Cel.new w2 27 #[.int .i64 0, .int .i64 0])
          have hB8 : V.heap.size ≤ w2.heap.size := HB2.out.size
          refine hK.out _ _ (HSB.out _ HBa.out) (fun hHeldA => ?_)
          obtain ⟨wa, hwa⟩ : ∃ wa, w2.alloc (.cells #[.int .i64 0, .int .i64 0] 27) = wa := ⟨_, rfl⟩
          rw [hwa] at HBa HT8 hHeldA ⊢
          obtain ⟨B8, hB8'⟩ : ∃ B8, w2.heap.size = B8 := ⟨_, rfl⟩
          rw [hB8'] at HT8 hB8 ⊢
          clear hwa hB8'
          clear hK K
          refine wpAnyH_ready (rs := [12]) (by kernel_rfl) (by simp) ?_
          refine AllReadyH.cons (o := _) rfl (fun K hK => ?_) AllReadyH.nil
          go_simp
          go_at_call 31
          refine (try_any rn rd re Be _ (HDE.out _ HBa.out).2).mono ?_
          rintro e w3 ⟨rfl, he3, hg3⟩
          have HE3 := Lib.hid he3
          have HD3 := Lib.hid ((HDE.out _ HBa.out).1.kept hg3 (by simp; omega))
          have HB3 := Lib.hid ((HBa.out.mono (show base ≤ V.heap.size by omega)).grown hg3 (by have := HBa.out.size; omega) (fun j e => by cases e; omega))
          have HS3 := Lib.hid ((HSB.out _ HBa.out).1.grown hg3 (by omega) (by omega) (by omega) (by omega) (by omega))
          have HT8 := Lib.hid (HT8.out.kept hg3 (by simp; omega))
          clear he3 hg3
          refine hK.out _ _ ⟨HS3.out, HD3.out⟩ (fun hHeld3 => ?_)
          clear hK K
          have f0 := HT8.out.frozen 0
          have f1 := HT8.out.frozen 1
          have q0 := HT8.out.cell 0 _ rfl
          have q1 := HT8.out.cell 1 _ rfl
          refine wpAnyH_ready (rs := [14]) (by kernel_rfl) (by simp) ?_
          refine AllReadyH.cons (o := _) rfl (fun K hK => ?_) AllReadyH.nil
          go_simp
          have hgs := (grown_set w3 B8 0 (.int .i64 rn)).trans (grown_set _ B8 1 (.int .i64 rd))
          have HT9 := Lib.hid ((HT8.out.setAt 0 (.int .i64 rn)).setAt 1 (.int .i64 rd))
          have HS9 := Lib.hid (HS3.out.grown hgs (by omega) (by omega) (by omega) (by omega) (by omega))
          have HD9 := Lib.hid (HD3.out.kept hgs (by simp; omega))
          have HE9 := Lib.hid (HE3.out.kept hgs (by simp; omega))
          have HB9 := Lib.hid (HB3.out.grown hgs (by have := HB3.out.size; omega) (fun j e => by cases e; omega))
          refine hK.out _ _ ⟨HS9.out, HD9.out⟩ (fun hHeld9 => ?_)
          clear hK K
          refine wpAnyH_done (by kernel_rfl) ?_ _
          go_wp2
          go_meet
          exact ⟨B8, _, rfl, rfl, hB8, HT9.out, HS9.out, HD9.out, HE9.out, HB9.out⟩
      · go_simp
        have HBa := Lib.hid (HB1.out.alloc HB1.out.size (.cells #[.int .i64 0, .int .i64 0] 27))
        have HT8 := Lib.hid (Cel.new w1 27 #[.int .i64 0, .int .i64 0])
        have hB8 : V.heap.size ≤ w1.heap.size := HB1.out.size
        refine hK.out _ _ (HSB.out _ HBa.out) (fun hHeldA => ?_)
        obtain ⟨wa, hwa⟩ : ∃ wa, w1.alloc (.cells #[.int .i64 0, .int .i64 0] 27) = wa := ⟨_, rfl⟩
        rw [hwa] at HBa HT8 hHeldA ⊢
        obtain ⟨B8, hB8'⟩ : ∃ B8, w1.heap.size = B8 := ⟨_, rfl⟩
        rw [hB8'] at HT8 hB8 ⊢
        clear hwa hB8'
        clear hK K
        refine wpAnyH_ready (rs := [9]) (by kernel_rfl) (by simp) ?_
        refine AllReadyH.cons (o := _) rfl (fun K hK => ?_) AllReadyH.nil
        go_simp
        go_at_call 9
        refine (HIN.out _ HBa.out).mono ?_
        rintro e w2 ⟨rfl, hb⟩
        have HB2 := Lib.hid (HBa.out.trans (hb.mono HBa.out.size))
        have HT8 := Lib.hid (HT8.out.below HT8.out.lt hb)
        clear hb
        refine hK.out _ _ (HSB.out _ HB2.out) (fun hHeldw2 => ?_)
        clear hK K
        refine wpAnyH_takeD (i := 10) (v := ?_) 19 rfl (by kernel_rfl) (by kernel_rfl) (by kernel_rfl) (fun _ _ _ h => h) (Or.inl ⟨by rfl, ?_⟩) (by assumption) rfl ?_
        rotate_left
        · intro w' hSw
          go_simp <;> with_reducible rfl
        simp only [List.setIfInBounds_toArray, List.set_cons_succ, List.set_cons_zero]
        refine wpAnyH_takeD (i := 11) (v := ?_) 20 rfl (by kernel_rfl) (by kernel_rfl) (by kernel_rfl) (fun _ _ _ h => h) (Or.inl ⟨by rfl, ?_⟩) (by assumption) rfl ?_
        rotate_left
        · intro w' hSw
          go_simp <;> with_reducible rfl
        simp only [List.setIfInBounds_toArray, List.set_cons_succ, List.set_cons_zero]
        refine wpAnyH_ready (rs := [12]) (by kernel_rfl) (by simp) ?_
        refine AllReadyH.cons (o := _) rfl (fun K hK => ?_) AllReadyH.nil
        go_simp
        go_at_call 31
        refine (try_any rn rd re Be _ (HDE.out _ HB2.out).2).mono ?_
        rintro e w3 ⟨rfl, he3, hg3⟩
        have HE3 := Lib.hid he3
        have HD3 := Lib.hid ((HDE.out _ HB2.out).1.kept hg3 (by simp; omega))
        have HB3 := Lib.hid ((HB2.out.mono (show base ≤ V.heap.size by omega)).grown hg3 (by have := HB2.out.size; omega) (fun j e => by cases e; omega))
        have HS3 := Lib.hid ((HSB.out _ HB2.out).1.grown hg3 (by omega) (by omega) (by omega) (by omega) (by omega))
        have HT8 := Lib.hid (HT8.out.kept hg3 (by simp; omega))
        clear he3 hg3
        refine hK.out _ _ ⟨HS3.out, HD3.out⟩ (fun hHeld3 => ?_)
        clear hK K
        have f0 := HT8.out.frozen 0
        have f1 := HT8.out.frozen 1
        have q0 := HT8.out.cell 0 _ rfl
        have q1 := HT8.out.cell 1 _ rfl
        refine wpAnyH_ready (rs := [14]) (by kernel_rfl) (by simp) ?_
        refine AllReadyH.cons (o := _) rfl (fun K hK => ?_) AllReadyH.nil
        go_simp
        have hgs := (grown_set w3 B8 0 (.int .i64 rn)).trans (grown_set _ B8 1 (.int .i64 rd))
        have HT9 := Lib.hid ((HT8.out.setAt 0 (.int .i64 rn)).setAt 1 (.int .i64 rd))
        have HS9 := Lib.hid (HS3.out.grown hgs (by omega) (by omega) (by omega) (by omega) (by omega))
        have HD9 := Lib.hid (HD3.out.kept hgs (by simp; omega))
        have HE9 := Lib.hid (HE3.out.kept hgs (by simp; omega))
        have HB9 := Lib.hid (HB3.out.grown hgs (by have := HB3.out.size; omega) (fun j e => by cases e; omega))
        refine hK.out _ _ ⟨HS9.out, HD9.out⟩ (fun hHeld9 => ?_)
        clear hK K
        refine wpAnyH_done (by kernel_rfl) ?_ _
        go_wp2
        go_meet
        exact ⟨B8, _, rfl, rfl, hB8, HT9.out, HS9.out, HD9.out, HE9.out, HB9.out⟩
    · go_simp
      have HBa := Lib.hid (HB0.out.alloc HB0.out.size (.cells #[.int .i64 0, .int .i64 0] 27))
      have HT8 := Lib.hid (Cel.new U 27 #[.int .i64 0, .int .i64 0])
      have hB8 : V.heap.size ≤ U.heap.size := HB0.out.size
      refine hK.out _ _ (HSB.out _ HBa.out) (fun hHeldA => ?_)
      obtain ⟨wa, hwa⟩ : ∃ wa, U.alloc (.cells #[.int .i64 0, .int .i64 0] 27) = wa := ⟨_, rfl⟩
      rw [hwa] at HBa HT8 hHeldA ⊢
      obtain ⟨B8, hB8'⟩ : ∃ B8, U.heap.size = B8 := ⟨_, rfl⟩
      rw [hB8'] at HT8 hB8 ⊢
      clear hwa hB8'
      clear hK K
      refine wpAnyH_ready (rs := [8]) (by kernel_rfl) (by simp) ?_
      refine AllReadyH.cons (o := _) rfl (fun K hK => ?_) AllReadyH.nil
      go_simp
      go_at_call 33
      refine (HBT.out _ HBa.out).mono ?_
      rintro e w1 ⟨rfl, hb⟩
      have HB1 := Lib.hid (HBa.out.trans (hb.mono HBa.out.size))
      have HT8 := Lib.hid (HT8.out.below HT8.out.lt hb)
      clear hb
      refine hK.out _ _ (HSB.out _ HB1.out) (fun hHeldw1 => ?_)
      clear hK K
      refine wpAnyH_ready (rs := [9]) (by kernel_rfl) (by simp) ?_
      refine AllReadyH.cons (o := _) rfl (fun K hK => ?_) AllReadyH.nil
      go_simp
      go_at_call 9
      refine (HIN.out _ HB1.out).mono ?_
      rintro e w2 ⟨rfl, hb⟩
      have HB2 := Lib.hid (HB1.out.trans (hb.mono HB1.out.size))
      have HT8 := Lib.hid (HT8.out.below HT8.out.lt hb)
      clear hb
      refine hK.out _ _ (HSB.out _ HB2.out) (fun hHeldw2 => ?_)
      clear hK K
      refine wpAnyH_takeD (i := 10) (v := ?_) 19 rfl (by kernel_rfl) (by kernel_rfl) (by kernel_rfl) (fun _ _ _ h => h) (Or.inl ⟨by rfl, ?_⟩) (by assumption) rfl ?_
      rotate_left
      · intro w' hSw
        go_simp <;> with_reducible rfl
      simp only [List.setIfInBounds_toArray, List.set_cons_succ, List.set_cons_zero]
      refine wpAnyH_takeD (i := 11) (v := ?_) 20 rfl (by kernel_rfl) (by kernel_rfl) (by kernel_rfl) (fun _ _ _ h => h) (Or.inl ⟨by rfl, ?_⟩) (by assumption) rfl ?_
      rotate_left
      · intro w' hSw
        go_simp <;> with_reducible rfl
      simp only [List.setIfInBounds_toArray, List.set_cons_succ, List.set_cons_zero]
      refine wpAnyH_ready (rs := [12]) (by kernel_rfl) (by simp) ?_
      refine AllReadyH.cons (o := _) rfl (fun K hK => ?_) AllReadyH.nil
      go_simp
      go_at_call 31
      refine (try_any rn rd re Be _ (HDE.out _ HB2.out).2).mono ?_
      rintro e w3 ⟨rfl, he3, hg3⟩
      have HE3 := Lib.hid he3
      have HD3 := Lib.hid ((HDE.out _ HB2.out).1.kept hg3 (by simp; omega))
      have HB3 := Lib.hid ((HB2.out.mono (show base ≤ V.heap.size by omega)).grown hg3 (by have := HB2.out.size; omega) (fun j e => by cases e; omega))
      have HS3 := Lib.hid ((HSB.out _ HB2.out).1.grown hg3 (by omega) (by omega) (by omega) (by omega) (by omega))
      have HT8 := Lib.hid (HT8.out.kept hg3 (by simp; omega))
      clear he3 hg3
      refine hK.out _ _ ⟨HS3.out, HD3.out⟩ (fun hHeld3 => ?_)
      clear hK K
      have f0 := HT8.out.frozen 0
      have f1 := HT8.out.frozen 1
      have q0 := HT8.out.cell 0 _ rfl
      have q1 := HT8.out.cell 1 _ rfl
      refine wpAnyH_ready (rs := [14]) (by kernel_rfl) (by simp) ?_
      refine AllReadyH.cons (o := _) rfl (fun K hK => ?_) AllReadyH.nil
      go_simp
      have hgs := (grown_set w3 B8 0 (.int .i64 rn)).trans (grown_set _ B8 1 (.int .i64 rd))
      have HT9 := Lib.hid ((HT8.out.setAt 0 (.int .i64 rn)).setAt 1 (.int .i64 rd))
      have HS9 := Lib.hid (HS3.out.grown hgs (by omega) (by omega) (by omega) (by omega) (by omega))
      have HD9 := Lib.hid (HD3.out.kept hgs (by simp; omega))
      have HE9 := Lib.hid (HE3.out.kept hgs (by simp; omega))
      have HB9 := Lib.hid (HB3.out.grown hgs (by have := HB3.out.size; omega) (fun j e => by cases e; omega))
      refine hK.out _ _ ⟨HS9.out, HD9.out⟩ (fun hHeld9 => ?_)
      clear hK K
      refine wpAnyH_done (by kernel_rfl) ?_ _
      go_wp2
      go_meet
      exact ⟨B8, _, rfl, rfl, hB8, HT9.out, HS9.out, HD9.out, HE9.out, HB9.out⟩
  case rest =>
    obtain ⟨B8, Wc, rfl, rfl, hB8, hT8, hS, hD, hE, hB⟩ := hcut
    have e0 := hE.cell 0 _ rfl
    have hf4 := hS.from_.frozen 0
    have hf5 := hS.from_.frozen 1
    have hf6 := hS.from_.frozen 2
    have hf7 := hS.from_.frozen 3
    have t0 := hS.dest.cell 0 _ rfl
    have t1 := hS.dest.cell 1 _ rfl
    have t2 := hS.dest.cell 2 _ rfl
    have t3 := hS.dest.cell 3 _ rfl
    have g0 := hS.from_.cell 0 _ rfl
    have g1 := hS.from_.cell 1 _ rfl
    have g2 := hS.from_.cell 2 _ rfl
    have g3 := hS.from_.cell 3 _ rfl
    by_cases h0 : re = 0
    · have HA := Lib.hid (hadd.out h0)
      subst h0
      go_upto_region 3 with fail
      have HS0 := Lib.hid hS
      have HT8 := Lib.hid hT8
      have HB := Lib.hid hB
      have HE := Lib.hid hE
      have HD := Lib.hid hD
      clear e0 hf4 hf5 hf6 hf7 t0 t1 t2 t3 g0 g1 g2 g3 hS hT8 hB hE hD
      go_cut [] (fun wx => ∃ (Wc' : World), Wc' = wx ∧ AcS Bf Bl Bb Bfr w.heap.size Be PN PD RN RD FY FM FD FS TY TM TD TS Ak Ay nk ck ny cy wx ∧ Cel wx Bq 39 #[.int .i64 PN, .int .i64 PD, .int .i64 rn, .int .i64 rd, .int .i64 0, .int .i64 1] ∧ Cel wx Be 34 #[.int .i64 0] ∧ Below base V wx)
      case first =>
        refine wp_region_held_drew (S := fun w' => AcS Bf Bl Bb Bfr w.heap.size Be PN PD RN RD FY FM FD FS TY TM TD TS Ak Ay nk ck ny cy w' ∧ Cel w' B8 27 #[.int .i64 rn, .int .i64 rd]) (by kernel_rfl) ⟨HS0.out.below (below_drew (Below.refl _ _)), HT8.out.below HT8.out.lt (below_drew (Below.refl _ _))⟩ (fun hHeld => ?_)
        obtain ⟨U, hU⟩ : ∃ U, Wc.drew = U := ⟨_, rfl⟩
        have HDU := Lib.hid (HD.out.below HD.out.lt (show Below Wc.heap.size Wc Wc.drew from below_drew (Below.refl _ _)))
        have HEU := Lib.hid (HE.out.below HE.out.lt (show Below Wc.heap.size Wc Wc.drew from below_drew (Below.refl _ _)))
        have HBU := Lib.hid (HB.out.trans ((show Below Wc.heap.size Wc Wc.drew from below_drew (Below.refl _ _)).mono (by have := HB.out.size; have := HBA.out; omega)))
        rw [hU] at HDU HEU HBU hHeld ⊢
        clear hU
        refine wpAnyH_takeD (i := 0) (v := ?_) 24 rfl (by kernel_rfl) (by kernel_rfl) (by kernel_rfl) (fun _ _ _ h => h) (Or.inl ⟨by rfl, ?_⟩) (by assumption) rfl ?_
        rotate_left
        · intro w' hSw
          obtain ⟨hSw, hS8⟩ := hSw; have c0 := hSw.func.cell 0 _ rfl; have q0 := hS8.cell 0 _ rfl; have q1 := hS8.cell 1 _ rfl
          go_simp <;> with_reducible rfl
        simp only [List.setIfInBounds_toArray, List.set_cons_succ, List.set_cons_zero]
        refine wpAnyH_takeD (i := 1) (v := ?_) 25 rfl (by kernel_rfl) (by kernel_rfl) (by kernel_rfl) (fun _ _ _ h => h) (Or.inl ⟨by rfl, ?_⟩) (by assumption) rfl ?_
        rotate_left
        · intro w' hSw
          obtain ⟨hSw, hS8⟩ := hSw; have c0 := hSw.func.cell 0 _ rfl; have q0 := hS8.cell 0 _ rfl; have q1 := hS8.cell 1 _ rfl
          go_simp <;> with_reducible rfl
        simp only [List.setIfInBounds_toArray, List.set_cons_succ, List.set_cons_zero]
        refine wpAnyH_takeD (i := 3) (v := ?_) 27 rfl (by kernel_rfl) (by kernel_rfl) (by kernel_rfl) (fun _ _ _ h => h) (Or.inl ⟨by rfl, ?_⟩) (by assumption) rfl ?_
        rotate_left
        · intro w' hSw
          obtain ⟨hSw, hS8⟩ := hSw; have c0 := hSw.func.cell 0 _ rfl; have q0 := hS8.cell 0 _ rfl; have q1 := hS8.cell 1 _ rfl
          go_simp <;> with_reducible rfl
        simp only [List.setIfInBounds_toArray, List.set_cons_succ, List.set_cons_zero]
        have d2 := HDU.out.cell 2 _ rfl
        have d3 := HDU.out.cell 3 _ rfl
        refine wpAnyH_ready (rs := [2]) (by kernel_rfl) (by simp) ?_
        refine AllReadyH.cons (o := _) rfl (fun K hK => ?_) AllReadyH.nil
        go_simp
        refine hK.out _ _ hHeld (fun hHeld2 => ?_)
        clear hK K
        refine wpAnyH_ready (rs := [4]) (by kernel_rfl) (by simp) ?_
        refine AllReadyH.cons (o := _) rfl (fun K hK => ?_) AllReadyH.nil
        go_simp
        go_at_call 10
        refine (HA.out _ (HCZ.out _ HBU.out).2).mono ?_
        rintro e w1 ⟨rfl, hb⟩
        have HB1 := Lib.hid (HBU.out.trans (hb.mono (by have := HBU.out.size; have := HBA.out; omega)))
        have HD1 := Lib.hid (HDU.out.below HDU.out.lt hb)
        have HE1 := Lib.hid (HEU.out.below HEU.out.lt hb)
        have HS1 := Lib.hid (hHeld.1.below hb)
        have H81 := Lib.hid (hHeld.2.below hHeld.2.lt hb)
        clear hb
        refine hK.out _ _ ⟨HS1.out, H81.out⟩ (fun hHeld4 => ?_)
        clear hK K
        refine wpAnyH_takeD (i := 5) (v := ?_) 29 rfl (by kernel_rfl) (by kernel_rfl) (by kernel_rfl) (fun _ _ _ h => h) (Or.inl ⟨by rfl, ?_⟩) (by assumption) rfl ?_
        rotate_left
        · intro w' hSw
          go_simp <;> with_reducible rfl
        simp only [List.setIfInBounds_toArray, List.set_cons_succ, List.set_cons_zero]
        refine wpAnyH_takeD (i := 6) (v := ?_) 30 rfl (by kernel_rfl) (by kernel_rfl) (by kernel_rfl) (fun _ _ _ h => h) (Or.inl ⟨by rfl, ?_⟩) (by assumption) rfl ?_
        rotate_left
        · intro w' hSw
          go_simp <;> with_reducible rfl
        simp only [List.setIfInBounds_toArray, List.set_cons_succ, List.set_cons_zero]
        refine wpAnyH_ready (rs := [7]) (by kernel_rfl) (by simp) ?_
        refine AllReadyH.cons (o := _) rfl (fun K hK => ?_) AllReadyH.nil
        go_simp
        go_at_call 31
        refine (try_any rn rd 0 Be _ HE1.out).mono ?_
        rintro e w2 ⟨rfl, he2, hg2⟩
        have HE2 := Lib.hid he2
        have HD2 := Lib.hid (HD1.out.kept hg2 (by simp; omega))
        have HB2 := Lib.hid (HB1.out.grown hg2 (by have := HB1.out.size; have := HBA.out; omega) (fun j e => by cases e; omega))
        have HS2 := Lib.hid (HS1.out.grown hg2 (by omega) (by omega) (by omega) (by omega) (by omega))
        have H82 := Lib.hid (H81.out.kept hg2 (by simp; omega))
        clear he2 hg2
        refine hK.out _ _ ⟨HS2.out, H82.out⟩ (fun hHeld7 => ?_)
        clear hK K
        refine wpAnyH_takeD (i := 8) (v := ?_) 32 rfl (by kernel_rfl) (by kernel_rfl) (by kernel_rfl) (fun _ _ _ h => h) (Or.inl ⟨by rfl, ?_⟩) (by assumption) rfl ?_
        rotate_left
        · intro w' hSw
          go_simp <;> with_reducible rfl
        simp only [List.setIfInBounds_toArray, List.set_cons_succ, List.set_cons_zero]
        have d2 := HD2.out.cell 2 _ rfl
        have d3 := HD2.out.cell 3 _ rfl
        have f2 := HD2.out.frozen 2
        have f3 := HD2.out.frozen 3
        refine wpAnyH_ready (rs := [9]) (by kernel_rfl) (by simp) ?_
        refine AllReadyH.cons (o := _) rfl (fun K hK => ?_) AllReadyH.nil
        go_simp
        have hgs := (grown_set w2 Bq 2 (.int .i64 rn)).trans (grown_set _ Bq 3 (.int .i64 rd))
        have HD3 := Lib.hid ((HD2.out.setAt 2 (.int .i64 rn)).setAt 3 (.int .i64 rd))
        have HS3 := Lib.hid (HS2.out.grown hgs (by omega) (by omega) (by omega) (by omega) (by omega))
        have H83 := Lib.hid (H82.out.kept hgs (by simp; omega))
        have HE3 := Lib.hid (HE2.out.kept hgs (by simp; omega))
        have HB3 := Lib.hid (HB2.out.grown hgs (by have := HB2.out.size; have := HBA.out; omega) (fun j e => by cases e; omega))
        refine hK.out _ _ ⟨HS3.out, H83.out⟩ (fun hHeld9 => ?_)
        clear hK K
        refine wpAnyH_done (by kernel_rfl) ?_ _
        go_wp2
        go_meet
        exact ⟨_, rfl, HS3.out, HD3.out, HE3.out, HB3.out⟩
      case rest =>
        obtain ⟨Wd, rfl, hS, hD, hE, hB⟩ := hcut
        have hf4 := hS.from_.frozen 0
        have hf5 := hS.from_.frozen 1
        have hf6 := hS.from_.frozen 2
        have hf7 := hS.from_.frozen 3
        have t0 := hS.dest.cell 0 _ rfl
        have t1 := hS.dest.cell 1 _ rfl
        have t2 := hS.dest.cell 2 _ rfl
        have t3 := hS.dest.cell 3 _ rfl
        have g0 := hS.from_.cell 0 _ rfl
        have g1 := hS.from_.cell 1 _ rfl
        have g2 := hS.from_.cell 2 _ rfl
        have g3 := hS.from_.cell 3 _ rfl
        have hgs := (((grown_set Wd Bfr 0 (.int .i64 TY)).trans (grown_set _ Bfr 1 (.int .i64 TM))).trans (grown_set _ Bfr 2 (.bool TS))).trans (grown_set _ Bfr 3 (.int .i64 TD))
        go_wp2
        go_end0
        exact ⟨rfl, ((HV.out.mono HBA.out).trans hB).grown hgs (by have := hB.size; have := HBA.out; have := HV.out.size; omega) (fun j e => by cases e; omega), hD.kept hgs (by simp; omega), hE.kept hgs (by simp; omega)⟩
    · have h0' : (re == 0) = false := beq_eq_false_iff_ne.2 h0
      have HN := Lib.hid h0
      have hgs := (((grown_set Wc Bfr 0 (.int .i64 TY)).trans (grown_set _ Bfr 1 (.int .i64 TM))).trans (grown_set _ Bfr 2 (.bool TS))).trans (grown_set _ Bfr 3 (.int .i64 TD))
      clear h0
      go_wp2
      go_end0
      exact ⟨rfl, ((HV.out.mono HBA.out).trans hB).grown hgs (by have := hB.size; have := HBA.out; have := HV.out.size; omega) (fun j e => by cases e; omega), .inr ⟨HN.out, hE.kept hgs (by simp; omega)⟩⟩
end Go.Proofs.YthpjeclhignciaaDoor
