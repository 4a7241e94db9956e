/- TopLends: the walk. Conditions: those stated. -/
import Derived.Test.YthpjeclhignciaaDoorT21
namespace Go.Proofs.YthpjeclhignciaaDoor
open Go Go.RowKit Go.Shelf
attribute [local go_sem] Oper.semAt_some rrV

/-- The boxes of TopLends that are never written. -/
structure BoxL (n : Nat) (PN PD RN RD FY FM FD : Int) (FS : Bool) (d0 d1 d2 : Int) (Ak Ay : Option Addr) (nk ck ny cy : Nat) (w : World) : Prop where
  cal : Cel w n 25 #[.slice Ak nk ck, .slice Ay ny cy]
  loan : Cel w (n + 1) 31 #[.int .i64 PN, .int .i64 PD, .int .i64 RN, .int .i64 RD, .int .i64 FY, .int .i64 FM, .bool FS, .int .i64 FD]
  days : Cel w (n + 1 + 1) 32 #[.int .i64 d0, .int .i64 d1, .int .i64 d2]
section
variable {n : Nat} {PN PD RN RD FY FM FD : Int} {FS : Bool} {d0 d1 d2 : Int} {Ak Ay : Option Addr} {nk ck ny cy : Nat} {a b : World}
theorem BoxL.below (h : BoxL n PN PD RN RD FY FM FD FS d0 d1 d2 Ak Ay nk ck ny cy a) (hb : Below a.heap.size a b) : BoxL n PN PD RN RD FY FM FD FS d0 d1 d2 Ak Ay nk ck ny cy b :=
  ⟨h.cal.below h.cal.lt hb, h.loan.below h.loan.lt hb, h.days.below h.days.lt hb⟩
theorem BoxL.grown (h : BoxL n PN PD RN RD FY FM FD FS d0 d1 d2 Ak Ay nk ck ny cy a) {q : Nat} (hg : a.grownBy b (some q)) (hq : n + 1 + 1 < q) : BoxL n PN PD RN RD FY FM FD FS d0 d1 d2 Ak Ay nk ck ny cy b :=
  ⟨h.cal.kept hg (by simp; omega), h.loan.kept hg (by simp; omega), h.days.kept hg (by simp; omega)⟩
end
def dayj (d0 d1 d2 : Int) (j : Nat) : Int := if j = 0 then d0 else if j = 1 then d1 else d2
theorem dayj_cell {w : World} {B : Nat} {d0 d1 d2 : Int} (h : Cel w B 32 #[.int .i64 d0, .int .i64 d1, .int .i64 d2]) {k : Nat} (hk : k < 3) : w.cell? ⟨B, k, none⟩ = some (.int .i64 (dayj d0 d1 d2 k)) := by
  match k, hk with
  | 0, _ => exact h.cell 0 _ rfl
  | 1, _ => exact h.cell 1 _ rfl
  | 2, _ => exact h.cell 2 _ rfl

/-- What the third loop knows of two days that follow each other. -/
theorem next_all {ks : List ByteArray} {ys : List Yr} {PN PD RN RD : Int} {F T U : Dt} {ki kj : Nat} {mi mj : Mo} {a b c d a' b' c' d' p s : Int} {r : RR}
    (i : InC ks ys T ki mi) (j : InC ks ys U kj mj)
    (h1 : OwP PN PD RN RD F T ks ys ki mi a b c d 0) (h2 : OwP PN PD RN RD F U ks ys kj mj a' b' c' d' 0)
    (hp : dayOf mj U - dayOf mi T = p) (hs : schemeF ki kj T U = s) (hr : fit (intQ PN PD RN RD s) = r) :
    ((p < 0 ∧ s < 0) ∨ (p = 0 ∧ s = 0) ∨ (0 < p ∧ 0 < s)) ∧ s ≤ 1099511627776 ∧ nnR (PN, PD) = true ∧ nnR (RN, RD) = true ∧ a = PN ∧ b = PD ∧
    Bd c ∧ Bd d ∧ Bd r.n ∧ Bd r.d ∧ (r.e = 0 → opF c d r.n r.d (fit (rat c d + rat r.n r.d)) = ⟨c', d', 0⟩) := by
  have hsg := scheme_sign (mos_row ys) i.at_ j.at_ i.D1 i.D2 j.D1 j.D2
  have bi := i.bd
  have bj := j.bd
  have hl := fun he => law_next h1 h2 he
  obtain ⟨kf, mf, f1, f2, f3, f4, f5, f6, f7, f8, f9⟩ := h1 rfl
  obtain ⟨p1, _⟩ := fit_isR f7
  rw [← f8, ← f9] at p1
  have pb := isR_bd p1
  have rb : (r.n = 0 ∧ r.d = 0) ∨ isR r.n r.d = true := by
    rw [← hr]
    rcases fit_err (intQ PN PD RN RD s) with h | h
    · exact .inr (fit_isR h).1
    · left
      unfold fit at h ⊢
      split at h
      · simp at h
      · next hh => rw [if_neg hh]; exact ⟨rfl, rfl⟩
  have rbb : Bd r.n ∧ Bd r.d := by
    rcases rb with ⟨e1, e2⟩ | h
    · rw [e1, e2]; unfold Bd; omega
    · have := isR_bd h; unfold Bd; omega
  rw [hs, hr] at hl
  refine ⟨?_, ?_, f2, f3, f5, f6, by unfold Bd; omega, by unfold Bd; omega, rbb.1, rbb.2, fun he => ?_⟩
  · unfold dayOf at hp
    unfold schemeF at hs
    have a1 := hsg.1
    have a2 := hsg.2
    omega
  · unfold schemeF at hs; omega
  · obtain ⟨q1, q2, q3⟩ := hl he
    rw [opF_yes q1 q2, q3]

set_option maxRecDepth 100000 in
set_option maxHeartbeats 8000000 in
theorem topLends_any (PN PD RN RD FY FM FD : Int) (FS : Bool) (d0 d1 d2 : Int) (Ak Ay : Option Addr) (nk ck ny cy : Nat) (ks : List ByteArray) (ys : List Yr) (w : World) (hcw : CalW w (.agg #[.slice Ak nk ck, .slice Ay ny cy]) ks ys) (hz : Zw w)
    (bPN : Bd PN) (bPD : Bd PD) (bRN : Bd RN) (bRD : Bd RD) (b0 : Bd d0) (b1 : Bd d1) (b2 : Bd d2) :
    Calls Tryd.prog 3 #[.agg #[.slice Ak nk ck, .slice Ay ny cy], .agg #[.int .i64 PN, .int .i64 PD, .int .i64 RN, .int .i64 RD, .int .i64 FY, .int .i64 FM, .bool FS, .int .i64 FD], .agg #[.int .i64 d0, .int .i64 d1, .int .i64 d2]] w fun e w' => e = .returned (.bool true) ∧ Below w.heap.size w w' := by
  have hB0 : Below w.heap.size w ((((w.alloc (.cells #[.slice Ak nk ck, .slice Ay ny cy] 25)).alloc (.cells #[.int .i64 PN, .int .i64 PD, .int .i64 RN, .int .i64 RD, .int .i64 FY, .int .i64 FM, .bool FS, .int .i64 FD] 31)).alloc (.cells #[.int .i64 d0, .int .i64 d1, .int .i64 d2] 32)).alloc (.cells #[.int .i64 0, .int .i64 0, .bool false, .int .i64 0, .int .i64 0, .int .i64 0, .bool false, .int .i64 0, .int .i64 0, .int .i64 0, .bool false, .int .i64 0] 33)) := (((below_alloc' _ _).alloc (by simp) _).alloc (by simp; omega) _).alloc (by simp; omega) _
  have Yc := (((Cel.new w 25 #[.slice Ak nk ck, .slice Ay ny cy]).alloc (.cells #[.int .i64 PN, .int .i64 PD, .int .i64 RN, .int .i64 RD, .int .i64 FY, .int .i64 FM, .bool FS, .int .i64 FD] 31)).alloc (.cells #[.int .i64 d0, .int .i64 d1, .int .i64 d2] 32)).alloc (.cells #[.int .i64 0, .int .i64 0, .bool false, .int .i64 0, .int .i64 0, .int .i64 0, .bool false, .int .i64 0, .int .i64 0, .int .i64 0, .bool false, .int .i64 0] 33)
  have Yl := ((Cel.new (w.alloc (.cells #[.slice Ak nk ck, .slice Ay ny cy] 25)) 31 #[.int .i64 PN, .int .i64 PD, .int .i64 RN, .int .i64 RD, .int .i64 FY, .int .i64 FM, .bool FS, .int .i64 FD]).alloc (.cells #[.int .i64 d0, .int .i64 d1, .int .i64 d2] 32)).alloc (.cells #[.int .i64 0, .int .i64 0, .bool false, .int .i64 0, .int .i64 0, .int .i64 0, .bool false, .int .i64 0, .int .i64 0, .int .i64 0, .bool false, .int .i64 0] 33)
  have Yd := (Cel.new ((w.alloc (.cells #[.slice Ak nk ck, .slice Ay ny cy] 25)).alloc (.cells #[.int .i64 PN, .int .i64 PD, .int .i64 RN, .int .i64 RD, .int .i64 FY, .int .i64 FM, .bool FS, .int .i64 FD] 31)) 32 #[.int .i64 d0, .int .i64 d1, .int .i64 d2]).alloc (.cells #[.int .i64 0, .int .i64 0, .bool false, .int .i64 0, .int .i64 0, .int .i64 0, .bool false, .int .i64 0, .int .i64 0, .int .i64 0, .bool false, .int .i64 0] 33)
  have Yo := Cel.new (((w.alloc (.cells #[.slice Ak nk ck, .slice Ay ny cy] 25)).alloc (.cells #[.int .i64 PN, .int .i64 PD, .int .i64 RN, .int .i64 RD, .int .i64 FY, .int .i64 FM, .bool FS, .int .i64 FD] 31)).alloc (.cells #[.int .i64 d0, .int .i64 d1, .int .i64 d2] 32)) 33 #[.int .i64 0, .int .i64 0, .bool false, .int .i64 0, .int .i64 0, .int .i64 0, .bool false, .int .i64 0, .int .i64 0, .int .i64 0, .bool false, .int .i64 0]
  simp only [World.size_alloc] at Yl Yd Yo
  have hX : BoxL w.heap.size PN PD RN RD FY FM FD FS d0 d1 d2 Ak Ay nk ck ny cy ((((w.alloc (.cells #[.slice Ak nk ck, .slice Ay ny cy] 25)).alloc (.cells #[.int .i64 PN, .int .i64 PD, .int .i64 RN, .int .i64 RD, .int .i64 FY, .int .i64 FM, .bool FS, .int .i64 FD] 31)).alloc (.cells #[.int .i64 d0, .int .i64 d1, .int .i64 d2] 32)).alloc (.cells #[.int .i64 0, .int .i64 0, .bool false, .int .i64 0, .int .i64 0, .int .i64 0, .bool false, .int .i64 0, .int .i64 0, .int .i64 0, .bool false, .int .i64 0] 33)) := ⟨Yc, Yl, Yd⟩
  have hbd : ∀ j, Bd (dayj d0 d1 d2 j) := fun j => by
    unfold dayj
    split
    · exact b0
    · split
      · exact b1
      · exact b2
  have HCZ := Lib.hid (fun w' (h : Below w.heap.size w w') => (⟨hcw.below h, hz.below h⟩ : CalW w' (.agg #[.slice Ak nk ck, .slice Ay ny cy]) ks ys ∧ Zw w'))
  have HAT := Lib.hid (fun j w' (h : CalW w' (.agg #[.slice Ak nk ck, .slice Ay ny cy]) ks ys) => At_any (.agg #[.slice Ak nk ck, .slice Ay ny cy]) ks ys (dayj d0 d1 d2 j) w' h (hbd j))
  have HOW := Lib.hid (fun TY TM TD TS kt mt w' (h : CalW w' (.agg #[.slice Ak nk ck, .slice Ay ny cy]) ks ys ∧ Zw w') hit => Owed_any PN PD RN RD FY FM FD FS TY TM TD TS Ak Ay nk ck ny cy ks ys kt mt w' h.1 h.2 hit bPN bPD bRN bRD)
  have HLE := Lib.hid (fun w' (h : Zw w') => lent_any w' h)
  clear hcw hz hbd bPN bPD bRN bRD b0 b1 b2 Yc Yl Yd
  go_enter Tryd.func3, Tryd.ntmps3
  go_wp2
  obtain ⟨W0, hW0⟩ : ∃ W0, ((((w.alloc (.cells #[.slice Ak nk ck, .slice Ay ny cy] 25)).alloc (.cells #[.int .i64 PN, .int .i64 PD, .int .i64 RN, .int .i64 RD, .int .i64 FY, .int .i64 FM, .bool FS, .int .i64 FD] 31)).alloc (.cells #[.int .i64 d0, .int .i64 d1, .int .i64 d2] 32)).alloc (.cells #[.int .i64 0, .int .i64 0, .bool false, .int .i64 0, .int .i64 0, .int .i64 0, .bool false, .int .i64 0, .int .i64 0, .int .i64 0, .bool false, .int .i64 0] 33)) = W0 := ⟨_, rfl⟩
  rw [hW0] at hB0 Yo hX ⊢
  clear hW0
  go_loopw [8] (fun ti wr => ∃ (k : Nat) (vs : Array Value) (f : Nat → Dt), ti = .int .i64 k ∧ k ≤ 3 ∧ BoxL w.heap.size PN PD RN RD FY FM FD FS d0 d1 d2 Ak Ay nk ck ny cy wr ∧ Cel wr (w.heap.size + 1 + 1 + 1) 33 vs ∧ Hid (OnA vs f k) ∧ Hid (∀ j, j < k → GoodD ks ys (f j)) ∧ Below w.heap.size w wr) (fun ti _ => 3 - (intOf ti).toNat)
  case atStart => exact ⟨0, _, fun _ => ⟨0, 0, false, 0⟩, rfl, by omega, hX, Yo, ⟨rfl, fun j h => by omega⟩, fun j h => by omega, hB0⟩
  case round =>
    clear hX Yo hB0
    obtain ⟨k, vs, f, rfl, hk, hX, hV, HO, HG, hB⟩ := hrel
    by_cases hlt : k < 3
    · have hki : (k : Int) < 3 := by omega
      go_upto_region 5 with fail
      obtain ⟨V, rfl⟩ : ∃ V, V = wr := ⟨_, rfl⟩
      have HX0 := Lib.hid hX
      have HV0 := Lib.hid hV
      have HB0 := Lib.hid hB
      have hn3 := hV.lt
      clear hX hV hB
      go_cut [9, 10] (fun t9 t10 wx => ∃ (B9 : Nat) (Wc : World), Wc = wx ∧ t9 = .pointer (some ⟨B9, 0, none⟩) ∧ t10 = .int .i64 (atE ks ys (dayj d0 d1 d2 k)).e ∧ V.heap.size ≤ B9 ∧ Cel wx B9 29 #[.int .i64 (atE ks ys (dayj d0 d1 d2 k)).d.Y, .int .i64 (atE ks ys (dayj d0 d1 d2 k)).d.M, .bool (atE ks ys (dayj d0 d1 d2 k)).d.S, .int .i64 (atE ks ys (dayj d0 d1 d2 k)).d.D] ∧ Below V.heap.size V wx)
      case first =>
        have HC := Lib.hid (fun w' (h : Below V.heap.size V w') => HAT.out k w' (HCZ.out w' (HB0.out.trans (h.mono HB0.out.size))).1)
        generalize atE ks ys (dayj d0 d1 d2 k) = ae at *
        obtain ⟨⟨eY, eM, eS, eD⟩, ee⟩ := ae
        have HU := Lib.hid (show Below V.heap.size V V.drew from below_drew (Below.refl _ _))
        refine wp_region_held_drew (S := fun w' => Below V.heap.size V w') (by kernel_rfl) (below_drew (Below.refl _ _)) (fun hHeld => ?_)
        obtain ⟨U, hU⟩ : ∃ U, V.drew = U := ⟨_, rfl⟩
        rw [hU] at HU hHeld ⊢
        clear hU
        refine wpAnyH_takeD (i := 0) (v := ?_) 27 rfl (by kernel_rfl) (by kernel_rfl) (by kernel_rfl) (fun _ _ _ h => h) (Or.inl ⟨by rfl, ?_⟩) (by assumption) rfl ?_
        rotate_left
        · intro w' hSw
          have hx := HX0.out.below hSw; have c0 := hx.cal.cell 0 _ rfl; have c1 := hx.cal.cell 1 _ rfl; have e0 := dayj_cell hx.days hlt
          go_simp <;> with_reducible rfl
        simp only [List.setIfInBounds_toArray, List.set_cons_succ, List.set_cons_zero]
        refine wpAnyH_takeD (i := 1) (v := ?_) 28 rfl (by kernel_rfl) (by kernel_rfl) (by kernel_rfl) (fun _ _ _ h => h) (Or.inl ⟨by rfl, ?_⟩) (by assumption) rfl ?_
        rotate_left
        · intro w' hSw
          have hx := HX0.out.below hSw; have c0 := hx.cal.cell 0 _ rfl; have c1 := hx.cal.cell 1 _ rfl; have e0 := dayj_cell hx.days hlt
          go_simp <;> with_reducible rfl
        simp only [List.setIfInBounds_toArray, List.set_cons_succ, List.set_cons_zero]
        refine wpAnyH_takeD (i := 2) (v := ?_) 29 rfl (by kernel_rfl) (by kernel_rfl) (by kernel_rfl) (fun _ _ _ h => h) (Or.inl ⟨by rfl, ?_⟩) (by assumption) rfl ?_
        rotate_left
        · intro w' hSw
          have hx := HX0.out.below hSw; have c0 := hx.cal.cell 0 _ rfl; have c1 := hx.cal.cell 1 _ rfl; have e0 := dayj_cell hx.days hlt
          go_simp <;> with_reducible rfl
        simp only [List.setIfInBounds_toArray, List.set_cons_succ, List.set_cons_zero]
        refine wpAnyH_takeD (i := 3) (v := ?_) 30 rfl (by kernel_rfl) (by kernel_rfl) (by kernel_rfl) (fun _ _ _ h => h) (Or.inl ⟨by rfl, ?_⟩) (by assumption) rfl ?_
        rotate_left
        · intro w' hSw
          have hx := HX0.out.below hSw; have c0 := hx.cal.cell 0 _ rfl; have c1 := hx.cal.cell 1 _ rfl; have e0 := dayj_cell hx.days hlt
          go_simp <;> with_reducible rfl
        simp only [List.setIfInBounds_toArray, List.set_cons_succ, List.set_cons_zero]
        refine wpAnyH_ready (rs := [4, 8]) (by kernel_rfl) (by simp) ?_
        refine AllReadyH.cons (o := _) rfl (fun K hK => ?_) (AllReadyH.cons (o := _) rfl (fun K hK => ?_) AllReadyH.nil)
        · go_simp
          go_at_call 4
          refine (HC.out _ HU.out).mono ?_
          rintro e w1 ⟨rfl, hb⟩
          simp only [deV]
          have HB1 := Lib.hid (HU.out.trans (hb.mono HU.out.size))
          clear hb
          refine hK.out _ _ HB1.out (fun hHeld1 => ?_)
          clear hK K
          refine wpAnyH_takeD (i := 5) (v := ?_) 26 rfl (by kernel_rfl) (by kernel_rfl) (by kernel_rfl) (fun _ _ _ h => h) (Or.inl ⟨by rfl, ?_⟩) (by assumption) rfl ?_
          rotate_left
          · intro w' hSw
            go_simp <;> with_reducible rfl
          simp only [List.setIfInBounds_toArray, List.set_cons_succ, List.set_cons_zero]
          refine wpAnyH_takeD (i := 6) (v := ?_) 32 rfl (by kernel_rfl) (by kernel_rfl) (by kernel_rfl) (fun _ _ _ h => h) (Or.inl ⟨by rfl, ?_⟩) (by assumption) rfl ?_
          rotate_left
          · intro w' hSw
            go_simp <;> with_reducible rfl
          simp only [List.setIfInBounds_toArray, List.set_cons_succ, List.set_cons_zero]
          refine wpAnyH_takeD (i := 7) (v := ?_) 33 rfl (by kernel_rfl) (by kernel_rfl) (by kernel_rfl) (fun _ _ _ h => h) (Or.inl ⟨by rfl, ?_⟩) (by assumption) rfl ?_
          rotate_left
          · intro w' hSw
            go_simp <;> with_reducible rfl
          simp only [List.setIfInBounds_toArray, List.set_cons_succ, List.set_cons_zero]
          refine wpAnyH_ready (rs := [8]) (by kernel_rfl) (by simp) ?_
          refine AllReadyH.cons (o := _) rfl (fun K hK => ?_) AllReadyH.nil
          go_simp
          have HBa := Lib.hid (HB1.out.alloc HB1.out.size (.cells #[.int .i64 0, .int .i64 0, .bool false, .int .i64 0] 29))
          have HT := Lib.hid (Cel.new w1 29 #[.int .i64 0, .int .i64 0, .bool false, .int .i64 0])
          have hB9 : V.heap.size ≤ w1.heap.size := HB1.out.size
          refine hK.out _ _ HBa.out (fun hHeldA => ?_)
          obtain ⟨wa, hwa⟩ : ∃ wa, w1.alloc (.cells #[.int .i64 0, .int .i64 0, .bool false, .int .i64 0] 29) = wa := ⟨_, rfl⟩
          rw [hwa] at HBa HT hHeldA ⊢
          obtain ⟨B9, hB9'⟩ : ∃ B9, w1.heap.size = B9 := ⟨_, rfl⟩
          rw [hB9'] at HT hB9 ⊢
          clear hwa hB9'
          clear hK K
          have f0 := HT.out.frozen 0
          have f1 := HT.out.frozen 1
          have f2 := HT.out.frozen 2
          have f3 := HT.out.frozen 3
          have q0 := HT.out.cell 0 _ rfl
          have q1 := HT.out.cell 1 _ rfl
          have q2 := HT.out.cell 2 _ rfl
          have q3 := HT.out.cell 3 _ rfl
          refine wpAnyH_ready (rs := [9]) (by kernel_rfl) (by simp) ?_
          refine AllReadyH.cons (o := _) rfl (fun K hK => ?_) AllReadyH.nil
          go_simp
          have HT9 := Lib.hid ((((HT.out.setAt 0 (.int .i64 eY)).setAt 1 (.int .i64 eM)).setAt 2 (.bool eS)).setAt 3 (.int .i64 eD))
          have hgs := ((((grown_set wa B9 0 (.int .i64 eY)).trans (grown_set _ B9 1 (.int .i64 eM))).trans (grown_set _ B9 2 (.bool eS))).trans (grown_set _ B9 3 (.int .i64 eD)))
          have HB9 := Lib.hid (HBa.out.grown hgs (by have := HBa.out.size; omega) (fun j e => by cases e; omega))
          refine hK.out _ _ HB9.out (fun hHeld9 => ?_)
          clear hK K
          refine wpAnyH_takeD (i := 10) (v := ?_) 10 rfl (by kernel_rfl) (by kernel_rfl) (by kernel_rfl) (fun _ _ _ h => h) (Or.inl ⟨by rfl, ?_⟩) (by assumption) rfl ?_
          rotate_left
          · intro w' hSw
            go_simp <;> with_reducible rfl
          simp only [List.setIfInBounds_toArray, List.set_cons_succ, List.set_cons_zero]
          refine wpAnyH_done (by kernel_rfl) ?_ _
          go_wp2
          go_meet
          exact ⟨B9, _, rfl, rfl, rfl, hB9, HT9.out, HB9.out⟩
        · go_simp
          have HBa := Lib.hid (HU.out.alloc HU.out.size (.cells #[.int .i64 0, .int .i64 0, .bool false, .int .i64 0] 29))
          have HT := Lib.hid (Cel.new U 29 #[.int .i64 0, .int .i64 0, .bool false, .int .i64 0])
          have hB9 : V.heap.size ≤ U.heap.size := HU.out.size
          refine hK.out _ _ HBa.out (fun hHeldA => ?_)
          obtain ⟨wa, hwa⟩ : ∃ wa, U.alloc (.cells #[.int .i64 0, .int .i64 0, .bool false, .int .i64 0] 29) = wa := ⟨_, rfl⟩
          rw [hwa] at HBa HT hHeldA ⊢
          obtain ⟨B9, hB9'⟩ : ∃ B9, U.heap.size = B9 := ⟨_, rfl⟩
          rw [hB9'] at HT hB9 ⊢
          clear hwa hB9'
          clear hK K
          refine wpAnyH_ready (rs := [4]) (by kernel_rfl) (by simp) ?_
          refine AllReadyH.cons (o := _) rfl (fun K hK => ?_) AllReadyH.nil
          go_simp
          go_at_call 4
          refine (HC.out _ HBa.out).mono ?_
          rintro e w1 ⟨rfl, hb⟩
          simp only [deV]
          have HB1 := Lib.hid (HBa.out.trans (hb.mono HBa.out.size))
          have HT := Lib.hid (HT.out.below HT.out.lt hb)
          clear hb
          refine hK.out _ _ HB1.out (fun hHeld1 => ?_)
          clear hK K
          refine wpAnyH_takeD (i := 5) (v := ?_) 26 rfl (by kernel_rfl) (by kernel_rfl) (by kernel_rfl) (fun _ _ _ h => h) (Or.inl ⟨by rfl, ?_⟩) (by assumption) rfl ?_
          rotate_left
          · intro w' hSw
            go_simp <;> with_reducible rfl
          simp only [List.setIfInBounds_toArray, List.set_cons_succ, List.set_cons_zero]
          refine wpAnyH_takeD (i := 6) (v := ?_) 32 rfl (by kernel_rfl) (by kernel_rfl) (by kernel_rfl) (fun _ _ _ h => h) (Or.inl ⟨by rfl, ?_⟩) (by assumption) rfl ?_
          rotate_left
          · intro w' hSw
            go_simp <;> with_reducible rfl
          simp only [List.setIfInBounds_toArray, List.set_cons_succ, List.set_cons_zero]
          refine wpAnyH_takeD (i := 7) (v := ?_) 33 rfl (by kernel_rfl) (by kernel_rfl) (by kernel_rfl) (fun _ _ _ h => h) (Or.inl ⟨by rfl, ?_⟩) (by assumption) rfl ?_
          rotate_left
          · intro w' hSw
            go_simp <;> with_reducible rfl
          simp only [List.setIfInBounds_toArray, List.set_cons_succ, List.set_cons_zero]
          have f0 := HT.out.frozen 0
          have f1 := HT.out.frozen 1
          have f2 := HT.out.frozen 2
          have f3 := HT.out.frozen 3
          have q0 := HT.out.cell 0 _ rfl
          have q1 := HT.out.cell 1 _ rfl
          have q2 := HT.out.cell 2 _ rfl
          have q3 := HT.out.cell 3 _ rfl
          refine wpAnyH_ready (rs := [9]) (by kernel_rfl) (by simp) ?_
          refine AllReadyH.cons (o := _) rfl (fun K hK => ?_) AllReadyH.nil
          go_simp
          have HT9 := Lib.hid ((((HT.out.setAt 0 (.int .i64 eY)).setAt 1 (.int .i64 eM)).setAt 2 (.bool eS)).setAt 3 (.int .i64 eD))
          have hgs := ((((grown_set w1 B9 0 (.int .i64 eY)).trans (grown_set _ B9 1 (.int .i64 eM))).trans (grown_set _ B9 2 (.bool eS))).trans (grown_set _ B9 3 (.int .i64 eD)))
          have HB9 := Lib.hid (HB1.out.grown hgs (by have := HB1.out.size; omega) (fun j e => by cases e; omega))
          refine hK.out _ _ HB9.out (fun hHeld9 => ?_)
          clear hK K
          refine wpAnyH_takeD (i := 10) (v := ?_) 10 rfl (by kernel_rfl) (by kernel_rfl) (by kernel_rfl) (fun _ _ _ h => h) (Or.inl ⟨by rfl, ?_⟩) (by assumption) rfl ?_
          rotate_left
          · intro w' hSw
            go_simp <;> with_reducible rfl
          simp only [List.setIfInBounds_toArray, List.set_cons_succ, List.set_cons_zero]
          refine wpAnyH_done (by kernel_rfl) ?_ _
          go_wp2
          go_meet
          exact ⟨B9, _, rfl, rfl, rfl, hB9, HT9.out, HB9.out⟩
      case rest =>
        obtain ⟨B9, Wc, rfl, rfl, rfl, hB9, hT, hBc⟩ := hcut
        have hBw := HB0.out.trans (hBc.mono HB0.out.size)
        have HGD := Lib.hid (fun h => atE_good (ks := ks) (ys := ys) (n := dayj d0 d1 d2 k) h)
        generalize atE ks ys (dayj d0 d1 d2 k) = ae at *
        obtain ⟨⟨eY, eM, eS, eD⟩, ee⟩ := ae
        simp only at HGD hT
        by_cases he : ee = 0
        · have HGD2 := Lib.hid (HGD.out he)
          subst he
          have hX1 := HX0.out.below hBc
          have hV1 := HV0.out.below HV0.out.lt hBc
          obtain ⟨hvs, _⟩ := HO.out
          obtain ⟨y0, hy0⟩ := hV1.some (k * 4) (by omega)
          obtain ⟨y1, hy1⟩ := hV1.some (k * 4 + 1) (by omega)
          obtain ⟨y2, hy2⟩ := hV1.some (k * 4 + 2) (by omega)
          obtain ⟨y3, hy3⟩ := hV1.some (k * 4 + 3) (by omega)
          have z0 := hV1.frozen (k * 4)
          have z1 := hV1.frozen (k * 4 + 1)
          have z2 := hV1.frozen (k * 4 + 2)
          have z3 := hV1.frozen (k * 4 + 3)
          have t0 := hT.cell 0 _ rfl
          have t1 := hT.cell 1 _ rfl
          have t2 := hT.cell 2 _ rfl
          have t3 := hT.cell 3 _ rfl
          have HX1 := Lib.hid hX1
          have HV1 := Lib.hid hV1
          have HBw := Lib.hid hBw
          have HOP := Lib.hid (HO.out.put hlt ⟨eY, eM, eS, eD⟩)
          clear hX1 hV1 hT hBc hvs hBw
          go_wp2
          have hgs := (((grown_set Wc (w.heap.size + 1 + 1 + 1) (k * 4) (.int .i64 eY)).trans (grown_set _ (w.heap.size + 1 + 1 + 1) (k * 4 + 1) (.int .i64 eM))).trans (grown_set _ (w.heap.size + 1 + 1 + 1) (k * 4 + 2) (.bool eS))).trans (grown_set _ (w.heap.size + 1 + 1 + 1) (k * 4 + 3) (.int .i64 eD))
          go_roundw
          case rel =>
            refine ⟨k + 1, _, fun j => if j = k then ⟨eY, eM, eS, eD⟩ else f j, by go_num, by omega, HX1.out.grown hgs (by omega), (((HV1.out.setAt (k * 4) _).setAt (k * 4 + 1) _).setAt (k * 4 + 2) _).setAt (k * 4 + 3) _, HOP.out, ?_, HBw.out.grown hgs HBw.out.size (fun j e => by cases e; omega)⟩
            intro j hj
            by_cases e : j = k
            · subst e
              show GoodD ks ys (if j = j then _ else f j)
              rw [if_pos rfl]
              exact HGD2.out
            · show GoodD ks ys (if j = k then _ else f j)
              rw [if_neg e]
              exact HG.out j (by omega)
          case measure => simp [intOf]; omega
        · have hne : (ee != 0) = true := by simpa using he
          clear he
          go_wp2_with (go_at_call 5; refine (HLE.out _ (HCZ.out _ hBw).2).mono ?_; rintro e w5 ⟨rfl, hb5⟩)
          go_ret
          exact ⟨rfl, below_then hBw hb5⟩
    · have hk3 : ¬ (k : Int) < 3 := by omega
      have HO3 := Lib.hid (show OnA vs f 3 from (show k = 3 by omega) ▸ HO.out)
      have HG3 := Lib.hid (show ∀ j, j < 3 → GoodD ks ys (f j) from (show k = 3 by omega) ▸ HG.out)
      have hBl := hV.lt
      have hX2 := hX.below (below_alloc' _ (.cells #[.int .i64 0, .int .i64 0, .int .i64 0, .int .i64 0, .int .i64 0, .int .i64 0, .int .i64 0, .int .i64 0, .int .i64 0, .int .i64 0, .int .i64 0, .int .i64 0, .int .i64 0, .int .i64 0, .int .i64 0, .int .i64 0, .int .i64 0, .int .i64 0] 40))
      have hV2 := hV.alloc (.cells #[.int .i64 0, .int .i64 0, .int .i64 0, .int .i64 0, .int .i64 0, .int .i64 0, .int .i64 0, .int .i64 0, .int .i64 0, .int .i64 0, .int .i64 0, .int .i64 0, .int .i64 0, .int .i64 0, .int .i64 0, .int .i64 0, .int .i64 0, .int .i64 0] 40)
      have hB2 := hB.alloc hB.size (.cells #[.int .i64 0, .int .i64 0, .int .i64 0, .int .i64 0, .int .i64 0, .int .i64 0, .int .i64 0, .int .i64 0, .int .i64 0, .int .i64 0, .int .i64 0, .int .i64 0, .int .i64 0, .int .i64 0, .int .i64 0, .int .i64 0, .int .i64 0, .int .i64 0] 40)
      have hU2 := Cel.new wr 40 #[.int .i64 0, .int .i64 0, .int .i64 0, .int .i64 0, .int .i64 0, .int .i64 0, .int .i64 0, .int .i64 0, .int .i64 0, .int .i64 0, .int .i64 0, .int .i64 0, .int .i64 0, .int .i64 0, .int .i64 0, .int .i64 0, .int .i64 0, .int .i64 0]
      clear HO HG hX hV hB hlt HAT
      go_wp2
      obtain ⟨W2, hW2⟩ : ∃ W2, wr.alloc (.cells #[.int .i64 0, .int .i64 0, .int .i64 0, .int .i64 0, .int .i64 0, .int .i64 0, .int .i64 0, .int .i64 0, .int .i64 0, .int .i64 0, .int .i64 0, .int .i64 0, .int .i64 0, .int .i64 0, .int .i64 0, .int .i64 0, .int .i64 0, .int .i64 0] 40) = W2 := ⟨_, rfl⟩
      rw [hW2] at hX2 hV2 hB2 hU2 ⊢
      obtain ⟨B11, hB11⟩ : ∃ B11, wr.heap.size = B11 := ⟨_, rfl⟩
      rw [hB11] at hU2 hBl ⊢
      clear hW2 hB11
      go_loopw [12] (fun ti wi => ∃ (m : Nat) (us : Array Value) (g : Nat → Db), ti = .int .i64 m ∧ m ≤ 3 ∧ BoxL w.heap.size PN PD RN RD FY FM FD FS d0 d1 d2 Ak Ay nk ck ny cy wi ∧ Cel wi (w.heap.size + 1 + 1 + 1) 33 vs ∧ Cel wi B11 40 us ∧ Hid (OwA us g m) ∧ Hid (∀ j, j < m → ∃ kt mt, InC ks ys (f j) kt mt ∧ OwP PN PD RN RD ⟨FY, FM, FS, FD⟩ (f j) ks ys kt mt (g j).a (g j).b (g j).c (g j).d 0) ∧ Below w.heap.size w wi) (fun ti _ => 3 - (intOf ti).toNat)
      case atStart => exact ⟨0, _, fun _ => ⟨0, 0, 0, 0, 0, 0⟩, rfl, by omega, hX2, hV2, hU2, ⟨rfl, fun j h => by omega⟩, fun j h => by omega, hB2⟩
      case round =>
        clear hX2 hV2 hU2 hB2
        obtain ⟨m, us, g, rfl, hm, hX, hV, hU, HOw, HGo, hB⟩ := hrel
        by_cases hlt : m < 3
        · have hmi : (m : Int) < 3 := by omega
          obtain ⟨kt, mt, hin⟩ := HG3.out m hlt
          obtain ⟨hvs, hon⟩ := HO3.out
          obtain ⟨v0, v1, v2, v3⟩ := hon m hlt
          have HC := Lib.hid (fun w' (h : Below w.heap.size w w') => HOW.out (f m).Y (f m).M (f m).D (f m).S kt mt w' (HCZ.out w' h) hin)
          have HIN := Lib.hid hin
          have HVV := Lib.hid (⟨v0, v1, v2, v3⟩ : vs[m * 4]? = some (.int .i64 (f m).Y) ∧ vs[m * 4 + 1]? = some (.int .i64 (f m).M) ∧ vs[m * 4 + 2]? = some (.bool (f m).S) ∧ vs[m * 4 + 3]? = some (.int .i64 (f m).D))
          clear v0 v1 v2 v3 hon hin hvs
          go_upto_region 13 with fail
          obtain ⟨V, rfl⟩ : ∃ V, V = wr := ⟨_, rfl⟩
          have HX0 := Lib.hid hX
          have HV0 := Lib.hid hV
          have HU0 := Lib.hid hU
          have HB0 := Lib.hid hB
          have hn3 := hV.lt
          have hn11 := hU.lt
          clear hX hV hU hB
          go_cut [13, 14] (fun t13 t14 wx => ∃ (B9 : Nat) (Wc : World) (oa ob oc od ox oy oe : Int), Wc = wx ∧ t13 = .pointer (some ⟨B9, 0, none⟩) ∧ t14 = .int .i64 oe ∧ V.heap.size ≤ B9 ∧ Cel wx B9 39 #[.int .i64 oa, .int .i64 ob, .int .i64 oc, .int .i64 od, .int .i64 ox, .int .i64 oy] ∧ Hid (OwP PN PD RN RD ⟨FY, FM, FS, FD⟩ (f m) ks ys kt mt oa ob oc od oe) ∧ Below V.heap.size V wx)
          case first =>
            have HUU := Lib.hid (show Below V.heap.size V V.drew from below_drew (Below.refl _ _))
            refine wp_region_held_drew (S := fun w' => Below V.heap.size V w') (by kernel_rfl) (below_drew (Below.refl _ _)) (fun hHeld => ?_)
            obtain ⟨U, hU⟩ : ∃ U, V.drew = U := ⟨_, rfl⟩
            rw [hU] at HUU hHeld ⊢
            clear hU
            refine wpAnyH_takeD (i := 0) (v := ?_) 45 rfl (by kernel_rfl) (by kernel_rfl) (by kernel_rfl) (fun _ _ _ h => h) (Or.inl ⟨by rfl, ?_⟩) (by assumption) rfl ?_
            rotate_left
            · intro w' hSw
              have hx := HX0.out.below hSw; have c0 := hx.cal.cell 0 _ rfl; have c1 := hx.cal.cell 1 _ rfl; have l0 := hx.loan.cell 0 _ rfl; have l1 := hx.loan.cell 1 _ rfl; have l2 := hx.loan.cell 2 _ rfl; have l3 := hx.loan.cell 3 _ rfl; have l4 := hx.loan.cell 4 _ rfl; have l5 := hx.loan.cell 5 _ rfl; have l6 := hx.loan.cell 6 _ rfl; have l7 := hx.loan.cell 7 _ rfl; have hv := HV0.out.below HV0.out.lt hSw; have e0 := hv.cell _ _ HVV.out.1; have e1 := hv.cell _ _ HVV.out.2.1; have e2 := hv.cell _ _ HVV.out.2.2.1; have e3 := hv.cell _ _ HVV.out.2.2.2
              go_simp <;> with_reducible rfl
            simp only [List.setIfInBounds_toArray, List.set_cons_succ, List.set_cons_zero]
            refine wpAnyH_takeD (i := 1) (v := ?_) 46 rfl (by kernel_rfl) (by kernel_rfl) (by kernel_rfl) (fun _ _ _ h => h) (Or.inl ⟨by rfl, ?_⟩) (by assumption) rfl ?_
            rotate_left
            · intro w' hSw
              have hx := HX0.out.below hSw; have c0 := hx.cal.cell 0 _ rfl; have c1 := hx.cal.cell 1 _ rfl; have l0 := hx.loan.cell 0 _ rfl; have l1 := hx.loan.cell 1 _ rfl; have l2 := hx.loan.cell 2 _ rfl; have l3 := hx.loan.cell 3 _ rfl; have l4 := hx.loan.cell 4 _ rfl; have l5 := hx.loan.cell 5 _ rfl; have l6 := hx.loan.cell 6 _ rfl; have l7 := hx.loan.cell 7 _ rfl; have hv := HV0.out.below HV0.out.lt hSw; have e0 := hv.cell _ _ HVV.out.1; have e1 := hv.cell _ _ HVV.out.2.1; have e2 := hv.cell _ _ HVV.out.2.2.1; have e3 := hv.cell _ _ HVV.out.2.2.2
              go_simp <;> with_reducible rfl
            simp only [List.setIfInBounds_toArray, List.set_cons_succ, List.set_cons_zero]
            refine wpAnyH_takeD (i := 2) (v := ?_) 47 rfl (by kernel_rfl) (by kernel_rfl) (by kernel_rfl) (fun _ _ _ h => h) (Or.inl ⟨by rfl, ?_⟩) (by assumption) rfl ?_
            rotate_left
            · intro w' hSw
              have hx := HX0.out.below hSw; have c0 := hx.cal.cell 0 _ rfl; have c1 := hx.cal.cell 1 _ rfl; have l0 := hx.loan.cell 0 _ rfl; have l1 := hx.loan.cell 1 _ rfl; have l2 := hx.loan.cell 2 _ rfl; have l3 := hx.loan.cell 3 _ rfl; have l4 := hx.loan.cell 4 _ rfl; have l5 := hx.loan.cell 5 _ rfl; have l6 := hx.loan.cell 6 _ rfl; have l7 := hx.loan.cell 7 _ rfl; have hv := HV0.out.below HV0.out.lt hSw; have e0 := hv.cell _ _ HVV.out.1; have e1 := hv.cell _ _ HVV.out.2.1; have e2 := hv.cell _ _ HVV.out.2.2.1; have e3 := hv.cell _ _ HVV.out.2.2.2
              go_simp <;> with_reducible rfl
            simp only [List.setIfInBounds_toArray, List.set_cons_succ, List.set_cons_zero]
            refine wpAnyH_takeD (i := 3) (v := ?_) 48 rfl (by kernel_rfl) (by kernel_rfl) (by kernel_rfl) (fun _ _ _ h => h) (Or.inl ⟨by rfl, ?_⟩) (by assumption) rfl ?_
            rotate_left
            · intro w' hSw
              have hx := HX0.out.below hSw; have c0 := hx.cal.cell 0 _ rfl; have c1 := hx.cal.cell 1 _ rfl; have l0 := hx.loan.cell 0 _ rfl; have l1 := hx.loan.cell 1 _ rfl; have l2 := hx.loan.cell 2 _ rfl; have l3 := hx.loan.cell 3 _ rfl; have l4 := hx.loan.cell 4 _ rfl; have l5 := hx.loan.cell 5 _ rfl; have l6 := hx.loan.cell 6 _ rfl; have l7 := hx.loan.cell 7 _ rfl; have hv := HV0.out.below HV0.out.lt hSw; have e0 := hv.cell _ _ HVV.out.1; have e1 := hv.cell _ _ HVV.out.2.1; have e2 := hv.cell _ _ HVV.out.2.2.1; have e3 := hv.cell _ _ HVV.out.2.2.2
              go_simp <;> with_reducible rfl
            simp only [List.setIfInBounds_toArray, List.set_cons_succ, List.set_cons_zero]
            refine wpAnyH_takeD (i := 4) (v := ?_) 49 rfl (by kernel_rfl) (by kernel_rfl) (by kernel_rfl) (fun _ _ _ h => h) (Or.inl ⟨by rfl, ?_⟩) (by assumption) rfl ?_
            rotate_left
            · intro w' hSw
              have hx := HX0.out.below hSw; have c0 := hx.cal.cell 0 _ rfl; have c1 := hx.cal.cell 1 _ rfl; have l0 := hx.loan.cell 0 _ rfl; have l1 := hx.loan.cell 1 _ rfl; have l2 := hx.loan.cell 2 _ rfl; have l3 := hx.loan.cell 3 _ rfl; have l4 := hx.loan.cell 4 _ rfl; have l5 := hx.loan.cell 5 _ rfl; have l6 := hx.loan.cell 6 _ rfl; have l7 := hx.loan.cell 7 _ rfl; have hv := HV0.out.below HV0.out.lt hSw; have e0 := hv.cell _ _ HVV.out.1; have e1 := hv.cell _ _ HVV.out.2.1; have e2 := hv.cell _ _ HVV.out.2.2.1; have e3 := hv.cell _ _ HVV.out.2.2.2
              go_simp <;> with_reducible rfl
            simp only [List.setIfInBounds_toArray, List.set_cons_succ, List.set_cons_zero]
            refine wpAnyH_ready (rs := [5, 9]) (by kernel_rfl) (by simp) ?_
            refine AllReadyH.cons (o := _) rfl (fun K hK => ?_) (AllReadyH.cons (o := _) rfl (fun K hK => ?_) AllReadyH.nil)
            · go_simp
              go_at_call 6
              refine (HC.out _ (HB0.out.trans (HUU.out.mono HB0.out.size))).mono ?_
              rintro e w1 ⟨oa, ob, oc, od, ox, oy, oe, rfl, hb, hbe, HP⟩
              have HB1 := Lib.hid (HUU.out.trans (hb.mono HUU.out.size))
              clear hb hbe
              refine hK.out _ _ HB1.out (fun hHeld1 => ?_)
              clear hK K
              refine wpAnyH_takeD (i := 6) (v := ?_) 44 rfl (by kernel_rfl) (by kernel_rfl) (by kernel_rfl) (fun _ _ _ h => h) (Or.inl ⟨by rfl, ?_⟩) (by assumption) rfl ?_
              rotate_left
              · intro w' hSw
                go_simp <;> with_reducible rfl
              simp only [List.setIfInBounds_toArray, List.set_cons_succ, List.set_cons_zero]
              refine wpAnyH_takeD (i := 7) (v := ?_) 51 rfl (by kernel_rfl) (by kernel_rfl) (by kernel_rfl) (fun _ _ _ h => h) (Or.inl ⟨by rfl, ?_⟩) (by assumption) rfl ?_
              rotate_left
              · intro w' hSw
                go_simp <;> with_reducible rfl
              simp only [List.setIfInBounds_toArray, List.set_cons_succ, List.set_cons_zero]
              refine wpAnyH_takeD (i := 8) (v := ?_) 52 rfl (by kernel_rfl) (by kernel_rfl) (by kernel_rfl) (fun _ _ _ h => h) (Or.inl ⟨by rfl, ?_⟩) (by assumption) rfl ?_
              rotate_left
              · intro w' hSw
                go_simp <;> with_reducible rfl
              simp only [List.setIfInBounds_toArray, List.set_cons_succ, List.set_cons_zero]
              refine wpAnyH_ready (rs := [9]) (by kernel_rfl) (by simp) ?_
              refine AllReadyH.cons (o := _) rfl (fun K hK => ?_) AllReadyH.nil
              go_simp
              have HBa := Lib.hid (HB1.out.alloc HB1.out.size (.cells #[.int .i64 0, .int .i64 0, .int .i64 0, .int .i64 0, .int .i64 0, .int .i64 0] 39))
              have HT := Lib.hid (Cel.new w1 39 #[.int .i64 0, .int .i64 0, .int .i64 0, .int .i64 0, .int .i64 0, .int .i64 0])
              have hB9 : V.heap.size ≤ w1.heap.size := HB1.out.size
              refine hK.out _ _ HBa.out (fun hHeldA => ?_)
              obtain ⟨wa, hwa⟩ : ∃ wa, w1.alloc (.cells #[.int .i64 0, .int .i64 0, .int .i64 0, .int .i64 0, .int .i64 0, .int .i64 0] 39) = wa := ⟨_, rfl⟩
              rw [hwa] at HBa HT hHeldA ⊢
              obtain ⟨B9, hB9'⟩ : ∃ B9, w1.heap.size = B9 := ⟨_, rfl⟩
              rw [hB9'] at HT hB9 ⊢
              clear hwa hB9'
              clear hK K
              have f0 := HT.out.frozen 0
              have f1 := HT.out.frozen 1
              have f2 := HT.out.frozen 2
              have f3 := HT.out.frozen 3
              have f4 := HT.out.frozen 4
              have f5 := HT.out.frozen 5
              have q0 := HT.out.cell 0 _ rfl
              have q1 := HT.out.cell 1 _ rfl
              have q2 := HT.out.cell 2 _ rfl
              have q3 := HT.out.cell 3 _ rfl
              have q4 := HT.out.cell 4 _ rfl
              have q5 := HT.out.cell 5 _ rfl
              refine wpAnyH_ready (rs := [10]) (by kernel_rfl) (by simp) ?_
              refine AllReadyH.cons (o := _) rfl (fun K hK => ?_) AllReadyH.nil
              go_simp
              have HT9 := Lib.hid ((((((HT.out.setAt 0 (.int .i64 oa)).setAt 1 (.int .i64 ob)).setAt 2 (.int .i64 oc)).setAt 3 (.int .i64 od)).setAt 4 (.int .i64 ox)).setAt 5 (.int .i64 oy))
              have hgs := ((((((grown_set wa B9 0 (.int .i64 oa)).trans (grown_set _ B9 1 (.int .i64 ob))).trans (grown_set _ B9 2 (.int .i64 oc))).trans (grown_set _ B9 3 (.int .i64 od))).trans (grown_set _ B9 4 (.int .i64 ox))).trans (grown_set _ B9 5 (.int .i64 oy)))
              have HB9 := Lib.hid (HBa.out.grown hgs (by have := HBa.out.size; omega) (fun j e => by cases e; omega))
              refine hK.out _ _ HB9.out (fun hHeld9 => ?_)
              clear hK K
              refine wpAnyH_takeD (i := 11) (v := ?_) 14 rfl (by kernel_rfl) (by kernel_rfl) (by kernel_rfl) (fun _ _ _ h => h) (Or.inl ⟨by rfl, ?_⟩) (by assumption) rfl ?_
              rotate_left
              · intro w' hSw
                go_simp <;> with_reducible rfl
              simp only [List.setIfInBounds_toArray, List.set_cons_succ, List.set_cons_zero]
              refine wpAnyH_done (by kernel_rfl) ?_ _
              go_wp2
              go_meet
              exact ⟨B9, _, oa, ob, oc, od, ox, oy, oe, rfl, rfl, rfl, hB9, HT9.out, HP, HB9.out⟩
            · go_simp
              have HBa := Lib.hid (HUU.out.alloc HUU.out.size (.cells #[.int .i64 0, .int .i64 0, .int .i64 0, .int .i64 0, .int .i64 0, .int .i64 0] 39))
              have HT := Lib.hid (Cel.new U 39 #[.int .i64 0, .int .i64 0, .int .i64 0, .int .i64 0, .int .i64 0, .int .i64 0])
              have hB9 : V.heap.size ≤ U.heap.size := HUU.out.size
              refine hK.out _ _ HBa.out (fun hHeldA => ?_)
              obtain ⟨wa, hwa⟩ : ∃ wa, U.alloc (.cells #[.int .i64 0, .int .i64 0, .int .i64 0, .int .i64 0, .int .i64 0, .int .i64 0] 39) = wa := ⟨_, rfl⟩
              rw [hwa] at HBa HT hHeldA ⊢
              obtain ⟨B9, hB9'⟩ : ∃ B9, U.heap.size = B9 := ⟨_, rfl⟩
              rw [hB9'] at HT hB9 ⊢
              clear hwa hB9'
              clear hK K
              refine wpAnyH_ready (rs := [5]) (by kernel_rfl) (by simp) ?_
              refine AllReadyH.cons (o := _) rfl (fun K hK => ?_) AllReadyH.nil
              go_simp
              go_at_call 6
              refine (HC.out _ (HB0.out.trans (HBa.out.mono HB0.out.size))).mono ?_
              rintro e w1 ⟨oa, ob, oc, od, ox, oy, oe, rfl, hb, hbe, HP⟩
              have HB1 := Lib.hid (HBa.out.trans (hb.mono HBa.out.size))
              have HT := Lib.hid (HT.out.below HT.out.lt hb)
              clear hb hbe
              refine hK.out _ _ HB1.out (fun hHeld1 => ?_)
              clear hK K
              refine wpAnyH_takeD (i := 6) (v := ?_) 44 rfl (by kernel_rfl) (by kernel_rfl) (by kernel_rfl) (fun _ _ _ h => h) (Or.inl ⟨by rfl, ?_⟩) (by assumption) rfl ?_
              rotate_left
              · intro w' hSw
                go_simp <;> with_reducible rfl
              simp only [List.setIfInBounds_toArray, List.set_cons_succ, List.set_cons_zero]
              refine wpAnyH_takeD (i := 7) (v := ?_) 51 rfl (by kernel_rfl) (by kernel_rfl) (by kernel_rfl) (fun _ _ _ h => h) (Or.inl ⟨by rfl, ?_⟩) (by assumption) rfl ?_
              rotate_left
              · intro w' hSw
                go_simp <;> with_reducible rfl
              simp only [List.setIfInBounds_toArray, List.set_cons_succ, List.set_cons_zero]
              refine wpAnyH_takeD (i := 8) (v := ?_) 52 rfl (by kernel_rfl) (by kernel_rfl) (by kernel_rfl) (fun _ _ _ h => h) (Or.inl ⟨by rfl, ?_⟩) (by assumption) rfl ?_
              rotate_left
              · intro w' hSw
                go_simp <;> with_reducible rfl
              simp only [List.setIfInBounds_toArray, List.set_cons_succ, List.set_cons_zero]
              have f0 := HT.out.frozen 0
              have f1 := HT.out.frozen 1
              have f2 := HT.out.frozen 2
              have f3 := HT.out.frozen 3
              have f4 := HT.out.frozen 4
              have f5 := HT.out.frozen 5
              have q0 := HT.out.cell 0 _ rfl
              have q1 := HT.out.cell 1 _ rfl
              have q2 := HT.out.cell 2 _ rfl
              have q3 := HT.out.cell 3 _ rfl
              have q4 := HT.out.cell 4 _ rfl
              have q5 := HT.out.cell 5 _ rfl
              refine wpAnyH_ready (rs := [10]) (by kernel_rfl) (by simp) ?_
              refine AllReadyH.cons (o := _) rfl (fun K hK => ?_) AllReadyH.nil
              go_simp
              have HT9 := Lib.hid ((((((HT.out.setAt 0 (.int .i64 oa)).setAt 1 (.int .i64 ob)).setAt 2 (.int .i64 oc)).setAt 3 (.int .i64 od)).setAt 4 (.int .i64 ox)).setAt 5 (.int .i64 oy))
              have hgs := ((((((grown_set w1 B9 0 (.int .i64 oa)).trans (grown_set _ B9 1 (.int .i64 ob))).trans (grown_set _ B9 2 (.int .i64 oc))).trans (grown_set _ B9 3 (.int .i64 od))).trans (grown_set _ B9 4 (.int .i64 ox))).trans (grown_set _ B9 5 (.int .i64 oy)))
              have HB9 := Lib.hid (HB1.out.grown hgs (by have := HB1.out.size; omega) (fun j e => by cases e; omega))
              refine hK.out _ _ HB9.out (fun hHeld9 => ?_)
              clear hK K
              refine wpAnyH_takeD (i := 11) (v := ?_) 14 rfl (by kernel_rfl) (by kernel_rfl) (by kernel_rfl) (fun _ _ _ h => h) (Or.inl ⟨by rfl, ?_⟩) (by assumption) rfl ?_
              rotate_left
              · intro w' hSw
                go_simp <;> with_reducible rfl
              simp only [List.setIfInBounds_toArray, List.set_cons_succ, List.set_cons_zero]
              refine wpAnyH_done (by kernel_rfl) ?_ _
              go_wp2
              go_meet
              exact ⟨B9, _, oa, ob, oc, od, ox, oy, oe, rfl, rfl, rfl, hB9, HT9.out, HP, HB9.out⟩
          case rest =>
            obtain ⟨B9, Wc, oa, ob, oc, od, ox, oy, oe, rfl, rfl, rfl, hB9, hT, HP, hBc⟩ := hcut
            have hBw := HB0.out.trans (hBc.mono HB0.out.size)
            by_cases he : oe = 0
            · subst he
              have hX1 := HX0.out.below hBc
              have hV1 := HV0.out.below HV0.out.lt hBc
              have hU1 := HU0.out.below HU0.out.lt hBc
              obtain ⟨hus, _⟩ := HOw.out
              obtain ⟨y0, hy0⟩ := hU1.some (m * 6 + 0) (by omega)
              have z0 := hU1.frozen (m * 6 + 0)
              have t0 := hT.cell 0 _ rfl
              obtain ⟨y1, hy1⟩ := hU1.some (m * 6 + 1) (by omega)
              have z1 := hU1.frozen (m * 6 + 1)
              have t1 := hT.cell 1 _ rfl
              obtain ⟨y2, hy2⟩ := hU1.some (m * 6 + 2) (by omega)
              have z2 := hU1.frozen (m * 6 + 2)
              have t2 := hT.cell 2 _ rfl
              obtain ⟨y3, hy3⟩ := hU1.some (m * 6 + 3) (by omega)
              have z3 := hU1.frozen (m * 6 + 3)
              have t3 := hT.cell 3 _ rfl
              obtain ⟨y4, hy4⟩ := hU1.some (m * 6 + 4) (by omega)
              have z4 := hU1.frozen (m * 6 + 4)
              have t4 := hT.cell 4 _ rfl
              obtain ⟨y5, hy5⟩ := hU1.some (m * 6 + 5) (by omega)
              have z5 := hU1.frozen (m * 6 + 5)
              have t5 := hT.cell 5 _ rfl
              rw [Nat.add_zero] at hy0 z0
              have HX1 := Lib.hid hX1
              have HV1 := Lib.hid hV1
              have HU1 := Lib.hid hU1
              have HBw := Lib.hid hBw
              have HOP := Lib.hid (HOw.out.put hlt ⟨oa, ob, oc, od, ox, oy⟩)
              clear hX1 hV1 hU1 hT hBc hus hBw
              go_wp2
              have hgs := ((((((grown_set Wc B11 (m * 6) (.int .i64 oa)).trans (grown_set _ B11 (m * 6 + 1) (.int .i64 ob))).trans (grown_set _ B11 (m * 6 + 2) (.int .i64 oc))).trans (grown_set _ B11 (m * 6 + 3) (.int .i64 od))).trans (grown_set _ B11 (m * 6 + 4) (.int .i64 ox))).trans (grown_set _ B11 (m * 6 + 5) (.int .i64 oy)))
              go_roundw
              case rel =>
                refine ⟨m + 1, _, fun j => if j = m then ⟨oa, ob, oc, od, ox, oy⟩ else g j, by go_num, by omega, HX1.out.grown hgs (by omega), HV1.out.kept hgs (by simp; omega), (((((HU1.out.setAt (m * 6) _).setAt (m * 6 + 1) _).setAt (m * 6 + 2) _).setAt (m * 6 + 3) _).setAt (m * 6 + 4) _).setAt (m * 6 + 5) _, HOP.out, ?_, HBw.out.grown hgs HBw.out.size (fun j e => by cases e; omega)⟩
                intro j hj
                by_cases e : j = m
                · subst e
                  simp only [if_true]
                  exact ⟨kt, mt, HIN.out, HP.out⟩
                · simp only [if_neg e]
                  exact HGo.out j (by omega)
              case measure => simp [intOf]; omega
            · have hne : (oe != 0) = true := by simpa using he
              clear he
              go_wp2_with (go_at_call 5; refine (HLE.out _ (HCZ.out _ hBw).2).mono ?_; rintro e w5 ⟨rfl, hb5⟩)
              go_ret
              exact ⟨rfl, below_then hBw hb5⟩
        · have hm3 : ¬ (m : Int) < 3 := by omega
          have HOw3 := Lib.hid (show OwA us g 3 from (show m = 3 by omega) ▸ HOw.out)
          have HGo3 := Lib.hid (show ∀ j, j < 3 → ∃ kt mt, InC ks ys (f j) kt mt ∧ OwP PN PD RN RD ⟨FY, FM, FS, FD⟩ (f j) ks ys kt mt (g j).a (g j).b (g j).c (g j).d 0 from (show m = 3 by omega) ▸ HGo.out)
          clear HOw HGo hlt HOW HG3
          have hBl2 := hU.lt
          have hIt : ∀ r : Int × Int, r = r := fun _ => rfl
          clear hIt
          go_wp2
          go_loopw [15] (fun ti wi => ∃ n : Nat, ti = .int .i64 n ∧ n ≤ 2 ∧ BoxL w.heap.size PN PD RN RD FY FM FD FS d0 d1 d2 Ak Ay nk ck ny cy wi ∧ Cel wi (w.heap.size + 1 + 1 + 1) 33 vs ∧ Cel wi B11 40 us ∧ Below w.heap.size w wi) (fun ti _ => 2 - (intOf ti).toNat)
          case atStart => exact ⟨0, rfl, by omega, hX, hV, hU, hB⟩
          case round =>
            clear hX hV hU hB
            obtain ⟨n, rfl, hn, hX, hV, hU, hB⟩ := hrel
            by_cases hlt : n < 2
            · have hni : (n : Int) < 2 := by omega
              have hni3 : (n : Int) < 3 := by omega
              have hn1 : (n : Int) + 1 < 3 := by omega
              have hn0 : 0 ≤ (n : Int) + 1 := by omega
              have hw1 : IntKind.i64.wrap ((n : Int) + 1) = (n : Int) + 1 := IntWalk.i64_in _ (by omega)
              obtain ⟨ki, mi, hi, hPi⟩ := HGo3.out n (by omega)
              obtain ⟨kj, mj, hj, hPj⟩ := HGo3.out (n + 1) (by omega)
              obtain ⟨hvs, hon⟩ := HO3.out
              obtain ⟨hus, how⟩ := HOw3.out
              obtain ⟨v0, v1, v2, v3⟩ := hon n (by omega)
              obtain ⟨x0, x1, x2, x3⟩ := hon (n + 1) (by omega)
              obtain ⟨o0, o1, o2, o3⟩ := how n (by omega)
              obtain ⟨q0, q1, q2, q3⟩ := how (n + 1) (by omega)
              have HBT := Lib.hid (fun w' (h : Below w.heap.size w w') => Between_yes (.agg #[.slice Ak nk ck, .slice Ay ny cy]) ks ys (f n) (f (n + 1)) ki kj mi mj w' (HCZ.out w' h).1 hi hj)
              have HSC := Lib.hid (fun w' (h : Below w.heap.size w w') => Scheme_yes (.agg #[.slice Ak nk ck, .slice Ay ny cy]) ks ys (f n) (f (n + 1)) ki kj mi mj w' (HCZ.out w' h).1 hi hj)
              obtain ⟨p, hp⟩ : ∃ p, dayOf mj (f (n + 1)) - dayOf mi (f n) = p := ⟨_, rfl⟩
              obtain ⟨s, hs⟩ : ∃ s, schemeF ki kj (f n) (f (n + 1)) = s := ⟨_, rfl⟩
              obtain ⟨r, hr⟩ : ∃ r, fit (intQ PN PD RN RD s) = r := ⟨_, rfl⟩
              obtain ⟨hsg, hs2, nP, nR, ea, eb, b1, b2, b3, b4, hnx⟩ := next_all hi hj hPi hPj hp hs hr
              rw [hp] at HBT
              rw [hs] at HSC
              rw [ea] at o0
              rw [eb] at o1
              simp only [dtA] at HBT HSC
              have HIT := Lib.hid (fun w' (hz : Zw w') (h1 : 0 ≤ s) => hr ▸ Interest_any PN PD RN RD s w' hz nP nR h1 hs2)
              have HAD := Lib.hid (fun w' (hz : Zw w') => add_any (g n).c (g n).d r.n r.d w' hz b1 b2 b3 b4)
              obtain ⟨r2, hr2⟩ : ∃ r2, opF (g n).c (g n).d r.n r.d (fit (rat (g n).c (g n).d + rat r.n r.d)) = r2 := ⟨_, rfl⟩
              rw [hr2] at HAD hnx
              have HVV := Lib.hid (And.intro v0 (And.intro v1 (And.intro v2 v3)))
              have HXX := Lib.hid (And.intro x0 (And.intro x1 (And.intro x2 x3)))
              have HOO := Lib.hid (And.intro o0 (And.intro o1 (And.intro o2 o3)))
              have HQQ := Lib.hid (And.intro q0 (And.intro q1 (And.intro q2 q3)))
              have HNX := Lib.hid hnx
              have HSG := Lib.hid hsg
              clear v0 v1 v2 v3 x0 x1 x2 x3 o0 o1 o2 o3 q0 q1 q2 q3 hon how hvs hus hPi hPj hi hj hp hs hr hsg ea eb b1 b2 b3 b4 hnx hr2 nP nR hs2
              generalize f n = fn at *
              generalize f (n + 1) = fm at *
              generalize g n = gn at *
              generalize g (n + 1) = gm at *
              obtain ⟨vY, vM, vS, vD⟩ := fn
              obtain ⟨xY, xM, xS, xD⟩ := fm
              obtain ⟨ga, gb, gc, gd, gx, gy⟩ := gn
              obtain ⟨ha, hb, hc, hd, hx, hy⟩ := gm
              simp only at HVV HXX HOO HQQ HNX HBT HSC HAD
              go_upto_region 20 with fail
              obtain ⟨V, rfl⟩ : ∃ V, V = wr := ⟨_, rfl⟩
              have HX0 := Lib.hid hX
              have HV0 := Lib.hid hV
              have HU0 := Lib.hid hU
              have HB0 := Lib.hid hB
              have hn3 := hV.lt
              have hn11 := hU.lt
              clear hX hV hU hB
              have HUU := Lib.hid (show Below V.heap.size V V.drew from below_drew (Below.refl _ _))
              refine wp_region_held_drew (S := fun w' => Below V.heap.size V w') (by kernel_rfl) (below_drew (Below.refl _ _)) (fun hHeld => ?_)
              obtain ⟨U, hU⟩ : ∃ U, V.drew = U := ⟨_, rfl⟩
              rw [hU] at HUU hHeld ⊢
              clear hU
              refine wpAnyH_takeD (i := 0) (v := ?_) 64 rfl (by kernel_rfl) (by kernel_rfl) (by kernel_rfl) (fun _ _ _ h => h) (Or.inl ⟨by rfl, ?_⟩) (by assumption) rfl ?_
              rotate_left
              · intro w' hSw
                have hx := HX0.out.below hSw; have c0 := hx.cal.cell 0 _ rfl; have c1 := hx.cal.cell 1 _ rfl; have hv := HV0.out.below HV0.out.lt hSw; have e0 := hv.cell _ _ HVV.out.1; have e1 := hv.cell _ _ HVV.out.2.1; have e2 := hv.cell _ _ HVV.out.2.2.1; have e3 := hv.cell _ _ HVV.out.2.2.2; have y0 := hv.cell _ _ HXX.out.1; have y1 := hv.cell _ _ HXX.out.2.1; have y2 := hv.cell _ _ HXX.out.2.2.1; have y3 := hv.cell _ _ HXX.out.2.2.2
                go_simp <;> with_reducible rfl
              simp only [List.setIfInBounds_toArray, List.set_cons_succ, List.set_cons_zero]
              refine wpAnyH_takeD (i := 1) (v := ?_) 65 rfl (by kernel_rfl) (by kernel_rfl) (by kernel_rfl) (fun _ _ _ h => h) (Or.inl ⟨by rfl, ?_⟩) (by assumption) rfl ?_
              rotate_left
              · intro w' hSw
                have hx := HX0.out.below hSw; have c0 := hx.cal.cell 0 _ rfl; have c1 := hx.cal.cell 1 _ rfl; have hv := HV0.out.below HV0.out.lt hSw; have e0 := hv.cell _ _ HVV.out.1; have e1 := hv.cell _ _ HVV.out.2.1; have e2 := hv.cell _ _ HVV.out.2.2.1; have e3 := hv.cell _ _ HVV.out.2.2.2; have y0 := hv.cell _ _ HXX.out.1; have y1 := hv.cell _ _ HXX.out.2.1; have y2 := hv.cell _ _ HXX.out.2.2.1; have y3 := hv.cell _ _ HXX.out.2.2.2
                go_simp <;> with_reducible rfl
              simp only [List.setIfInBounds_toArray, List.set_cons_succ, List.set_cons_zero]
              refine wpAnyH_takeD (i := 2) (v := ?_) 66 rfl (by kernel_rfl) (by kernel_rfl) (by kernel_rfl) (fun _ _ _ h => h) (Or.inl ⟨by rfl, ?_⟩) (by assumption) rfl ?_
              rotate_left
              · intro w' hSw
                have hx := HX0.out.below hSw; have c0 := hx.cal.cell 0 _ rfl; have c1 := hx.cal.cell 1 _ rfl; have hv := HV0.out.below HV0.out.lt hSw; have e0 := hv.cell _ _ HVV.out.1; have e1 := hv.cell _ _ HVV.out.2.1; have e2 := hv.cell _ _ HVV.out.2.2.1; have e3 := hv.cell _ _ HVV.out.2.2.2; have y0 := hv.cell _ _ HXX.out.1; have y1 := hv.cell _ _ HXX.out.2.1; have y2 := hv.cell _ _ HXX.out.2.2.1; have y3 := hv.cell _ _ HXX.out.2.2.2
                go_simp <;> with_reducible rfl
              simp only [List.setIfInBounds_toArray, List.set_cons_succ, List.set_cons_zero]
              refine wpAnyH_takeD (i := 3) (v := ?_) 67 rfl (by kernel_rfl) (by kernel_rfl) (by kernel_rfl) (fun _ _ _ h => h) (Or.inl ⟨by rfl, ?_⟩) (by assumption) rfl ?_
              rotate_left
              · intro w' hSw
                have hx := HX0.out.below hSw; have c0 := hx.cal.cell 0 _ rfl; have c1 := hx.cal.cell 1 _ rfl; have hv := HV0.out.below HV0.out.lt hSw; have e0 := hv.cell _ _ HVV.out.1; have e1 := hv.cell _ _ HVV.out.2.1; have e2 := hv.cell _ _ HVV.out.2.2.1; have e3 := hv.cell _ _ HVV.out.2.2.2; have y0 := hv.cell _ _ HXX.out.1; have y1 := hv.cell _ _ HXX.out.2.1; have y2 := hv.cell _ _ HXX.out.2.2.1; have y3 := hv.cell _ _ HXX.out.2.2.2
                go_simp <;> with_reducible rfl
              simp only [List.setIfInBounds_toArray, List.set_cons_succ, List.set_cons_zero]
              refine wpAnyH_takeD (i := 4) (v := ?_) 68 rfl (by kernel_rfl) (by kernel_rfl) (by kernel_rfl) (fun _ _ _ h => h) (Or.inl ⟨by rfl, ?_⟩) (by assumption) rfl ?_
              rotate_left
              · intro w' hSw
                have hx := HX0.out.below hSw; have c0 := hx.cal.cell 0 _ rfl; have c1 := hx.cal.cell 1 _ rfl; have hv := HV0.out.below HV0.out.lt hSw; have e0 := hv.cell _ _ HVV.out.1; have e1 := hv.cell _ _ HVV.out.2.1; have e2 := hv.cell _ _ HVV.out.2.2.1; have e3 := hv.cell _ _ HVV.out.2.2.2; have y0 := hv.cell _ _ HXX.out.1; have y1 := hv.cell _ _ HXX.out.2.1; have y2 := hv.cell _ _ HXX.out.2.2.1; have y3 := hv.cell _ _ HXX.out.2.2.2
                go_simp <;> with_reducible rfl
              simp only [List.setIfInBounds_toArray, List.set_cons_succ, List.set_cons_zero]
              refine wpAnyH_takeD (i := 5) (v := ?_) 69 rfl (by kernel_rfl) (by kernel_rfl) (by kernel_rfl) (fun _ _ _ h => h) (Or.inl ⟨by rfl, ?_⟩) (by assumption) rfl ?_
              rotate_left
              · intro w' hSw
                have hx := HX0.out.below hSw; have c0 := hx.cal.cell 0 _ rfl; have c1 := hx.cal.cell 1 _ rfl; have hv := HV0.out.below HV0.out.lt hSw; have e0 := hv.cell _ _ HVV.out.1; have e1 := hv.cell _ _ HVV.out.2.1; have e2 := hv.cell _ _ HVV.out.2.2.1; have e3 := hv.cell _ _ HVV.out.2.2.2; have y0 := hv.cell _ _ HXX.out.1; have y1 := hv.cell _ _ HXX.out.2.1; have y2 := hv.cell _ _ HXX.out.2.2.1; have y3 := hv.cell _ _ HXX.out.2.2.2
                go_simp <;> with_reducible rfl
              simp only [List.setIfInBounds_toArray, List.set_cons_succ, List.set_cons_zero]
              refine wpAnyH_takeD (i := 6) (v := ?_) 70 rfl (by kernel_rfl) (by kernel_rfl) (by kernel_rfl) (fun _ _ _ h => h) (Or.inl ⟨by rfl, ?_⟩) (by assumption) rfl ?_
              rotate_left
              · intro w' hSw
                have hx := HX0.out.below hSw; have c0 := hx.cal.cell 0 _ rfl; have c1 := hx.cal.cell 1 _ rfl; have hv := HV0.out.below HV0.out.lt hSw; have e0 := hv.cell _ _ HVV.out.1; have e1 := hv.cell _ _ HVV.out.2.1; have e2 := hv.cell _ _ HVV.out.2.2.1; have e3 := hv.cell _ _ HVV.out.2.2.2; have y0 := hv.cell _ _ HXX.out.1; have y1 := hv.cell _ _ HXX.out.2.1; have y2 := hv.cell _ _ HXX.out.2.2.1; have y3 := hv.cell _ _ HXX.out.2.2.2
                go_simp <;> with_reducible rfl
              simp only [List.setIfInBounds_toArray, List.set_cons_succ, List.set_cons_zero]
              refine wpAnyH_takeD (i := 7) (v := ?_) 71 rfl (by kernel_rfl) (by kernel_rfl) (by kernel_rfl) (fun _ _ _ h => h) (Or.inl ⟨by rfl, ?_⟩) (by assumption) rfl ?_
              rotate_left
              · intro w' hSw
                have hx := HX0.out.below hSw; have c0 := hx.cal.cell 0 _ rfl; have c1 := hx.cal.cell 1 _ rfl; have hv := HV0.out.below HV0.out.lt hSw; have e0 := hv.cell _ _ HVV.out.1; have e1 := hv.cell _ _ HVV.out.2.1; have e2 := hv.cell _ _ HVV.out.2.2.1; have e3 := hv.cell _ _ HVV.out.2.2.2; have y0 := hv.cell _ _ HXX.out.1; have y1 := hv.cell _ _ HXX.out.2.1; have y2 := hv.cell _ _ HXX.out.2.2.1; have y3 := hv.cell _ _ HXX.out.2.2.2
                go_simp <;> with_reducible rfl
              simp only [List.setIfInBounds_toArray, List.set_cons_succ, List.set_cons_zero]
              refine wpAnyH_ready (rs := [8]) (by kernel_rfl) (by simp) ?_
              refine AllReadyH.cons (o := _) rfl (fun K hK => ?_) AllReadyH.nil
              go_simp
              go_at_call 7
              refine (HBT.out _ (HB0.out.trans (HUU.out.mono HB0.out.size))).mono ?_
              rintro e w1 ⟨rfl, hb⟩
              have HB1 := Lib.hid (HUU.out.trans (hb.mono HUU.out.size))
              clear hb
              refine hK.out _ _ HB1.out (fun hHeldHB1 => ?_)
              clear hK K
              refine wpAnyH_takeD (i := 9) (v := ?_) 63 rfl (by kernel_rfl) (by kernel_rfl) (by kernel_rfl) (fun _ _ _ h => h) (Or.inl ⟨by rfl, ?_⟩) (by assumption) rfl ?_
              rotate_left
              · intro w' hSw
                have hx := HX0.out.below hSw; have c0 := hx.cal.cell 0 _ rfl; have c1 := hx.cal.cell 1 _ rfl; have hv := HV0.out.below HV0.out.lt hSw; have e0 := hv.cell _ _ HVV.out.1; have e1 := hv.cell _ _ HVV.out.2.1; have e2 := hv.cell _ _ HVV.out.2.2.1; have e3 := hv.cell _ _ HVV.out.2.2.2; have y0 := hv.cell _ _ HXX.out.1; have y1 := hv.cell _ _ HXX.out.2.1; have y2 := hv.cell _ _ HXX.out.2.2.1; have y3 := hv.cell _ _ HXX.out.2.2.2
                go_simp <;> with_reducible rfl
              simp only [List.setIfInBounds_toArray, List.set_cons_succ, List.set_cons_zero]
              refine wpAnyH_takeD (i := 10) (v := ?_) 73 rfl (by kernel_rfl) (by kernel_rfl) (by kernel_rfl) (fun _ _ _ h => h) (Or.inl ⟨by rfl, ?_⟩) (by assumption) rfl ?_
              rotate_left
              · intro w' hSw
                have hx := HX0.out.below hSw; have c0 := hx.cal.cell 0 _ rfl; have c1 := hx.cal.cell 1 _ rfl; have hv := HV0.out.below HV0.out.lt hSw; have e0 := hv.cell _ _ HVV.out.1; have e1 := hv.cell _ _ HVV.out.2.1; have e2 := hv.cell _ _ HVV.out.2.2.1; have e3 := hv.cell _ _ HVV.out.2.2.2; have y0 := hv.cell _ _ HXX.out.1; have y1 := hv.cell _ _ HXX.out.2.1; have y2 := hv.cell _ _ HXX.out.2.2.1; have y3 := hv.cell _ _ HXX.out.2.2.2
                go_simp <;> with_reducible rfl
              simp only [List.setIfInBounds_toArray, List.set_cons_succ, List.set_cons_zero]
              refine wpAnyH_takeD (i := 11) (v := ?_) 74 rfl (by kernel_rfl) (by kernel_rfl) (by kernel_rfl) (fun _ _ _ h => h) (Or.inl ⟨by rfl, ?_⟩) (by assumption) rfl ?_
              rotate_left
              · intro w' hSw
                have hx := HX0.out.below hSw; have c0 := hx.cal.cell 0 _ rfl; have c1 := hx.cal.cell 1 _ rfl; have hv := HV0.out.below HV0.out.lt hSw; have e0 := hv.cell _ _ HVV.out.1; have e1 := hv.cell _ _ HVV.out.2.1; have e2 := hv.cell _ _ HVV.out.2.2.1; have e3 := hv.cell _ _ HVV.out.2.2.2; have y0 := hv.cell _ _ HXX.out.1; have y1 := hv.cell _ _ HXX.out.2.1; have y2 := hv.cell _ _ HXX.out.2.2.1; have y3 := hv.cell _ _ HXX.out.2.2.2
                go_simp <;> with_reducible rfl
              simp only [List.setIfInBounds_toArray, List.set_cons_succ, List.set_cons_zero]
              refine wpAnyH_takeD (i := 12) (v := ?_) 16 rfl (by kernel_rfl) (by kernel_rfl) (by kernel_rfl) (fun _ _ _ h => h) (Or.inl ⟨by rfl, ?_⟩) (by assumption) rfl ?_
              rotate_left
              · intro w' hSw
                have hx := HX0.out.below hSw; have c0 := hx.cal.cell 0 _ rfl; have c1 := hx.cal.cell 1 _ rfl; have hv := HV0.out.below HV0.out.lt hSw; have e0 := hv.cell _ _ HVV.out.1; have e1 := hv.cell _ _ HVV.out.2.1; have e2 := hv.cell _ _ HVV.out.2.2.1; have e3 := hv.cell _ _ HVV.out.2.2.2; have y0 := hv.cell _ _ HXX.out.1; have y1 := hv.cell _ _ HXX.out.2.1; have y2 := hv.cell _ _ HXX.out.2.2.1; have y3 := hv.cell _ _ HXX.out.2.2.2
                go_simp <;> with_reducible rfl
              simp only [List.setIfInBounds_toArray, List.set_cons_succ, List.set_cons_zero]
              refine wpAnyH_takeD (i := 13) (v := ?_) 17 rfl (by kernel_rfl) (by kernel_rfl) (by kernel_rfl) (fun _ _ _ h => h) (Or.inl ⟨by rfl, ?_⟩) (by assumption) rfl ?_
              rotate_left
              · intro w' hSw
                have hx := HX0.out.below hSw; have c0 := hx.cal.cell 0 _ rfl; have c1 := hx.cal.cell 1 _ rfl; have hv := HV0.out.below HV0.out.lt hSw; have e0 := hv.cell _ _ HVV.out.1; have e1 := hv.cell _ _ HVV.out.2.1; have e2 := hv.cell _ _ HVV.out.2.2.1; have e3 := hv.cell _ _ HVV.out.2.2.2; have y0 := hv.cell _ _ HXX.out.1; have y1 := hv.cell _ _ HXX.out.2.1; have y2 := hv.cell _ _ HXX.out.2.2.1; have y3 := hv.cell _ _ HXX.out.2.2.2
                go_simp <;> with_reducible rfl
              simp only [List.setIfInBounds_toArray, List.set_cons_succ, List.set_cons_zero]
              refine wpAnyH_done (by kernel_rfl) ?_ _
              go_upto_region 21 with fail
              have HUV := Lib.hid (show Below V.heap.size V w1.drew from below_drew HB1.out)
              refine wp_region_held_drew (S := fun w' => Below V.heap.size V w') (by kernel_rfl) (below_drew HB1.out) (fun hHeld => ?_)
              obtain ⟨U1, hU1⟩ : ∃ U1, w1.drew = U1 := ⟨_, rfl⟩
              rw [hU1] at HUV hHeld ⊢
              clear hU1
              refine wpAnyH_takeD (i := 0) (v := ?_) 76 rfl (by kernel_rfl) (by kernel_rfl) (by kernel_rfl) (fun _ _ _ h => h) (Or.inl ⟨by rfl, ?_⟩) (by assumption) rfl ?_
              rotate_left
              · intro w' hSw
                have hx := HX0.out.below hSw; have c0 := hx.cal.cell 0 _ rfl; have c1 := hx.cal.cell 1 _ rfl; have hv := HV0.out.below HV0.out.lt hSw; have e0 := hv.cell _ _ HVV.out.1; have e1 := hv.cell _ _ HVV.out.2.1; have e2 := hv.cell _ _ HVV.out.2.2.1; have e3 := hv.cell _ _ HVV.out.2.2.2; have y0 := hv.cell _ _ HXX.out.1; have y1 := hv.cell _ _ HXX.out.2.1; have y2 := hv.cell _ _ HXX.out.2.2.1; have y3 := hv.cell _ _ HXX.out.2.2.2
                go_simp <;> with_reducible rfl
              simp only [List.setIfInBounds_toArray, List.set_cons_succ, List.set_cons_zero]
              refine wpAnyH_takeD (i := 1) (v := ?_) 77 rfl (by kernel_rfl) (by kernel_rfl) (by kernel_rfl) (fun _ _ _ h => h) (Or.inl ⟨by rfl, ?_⟩) (by assumption) rfl ?_
              rotate_left
              · intro w' hSw
                have hx := HX0.out.below hSw; have c0 := hx.cal.cell 0 _ rfl; have c1 := hx.cal.cell 1 _ rfl; have hv := HV0.out.below HV0.out.lt hSw; have e0 := hv.cell _ _ HVV.out.1; have e1 := hv.cell _ _ HVV.out.2.1; have e2 := hv.cell _ _ HVV.out.2.2.1; have e3 := hv.cell _ _ HVV.out.2.2.2; have y0 := hv.cell _ _ HXX.out.1; have y1 := hv.cell _ _ HXX.out.2.1; have y2 := hv.cell _ _ HXX.out.2.2.1; have y3 := hv.cell _ _ HXX.out.2.2.2
                go_simp <;> with_reducible rfl
              simp only [List.setIfInBounds_toArray, List.set_cons_succ, List.set_cons_zero]
              refine wpAnyH_takeD (i := 2) (v := ?_) 78 rfl (by kernel_rfl) (by kernel_rfl) (by kernel_rfl) (fun _ _ _ h => h) (Or.inl ⟨by rfl, ?_⟩) (by assumption) rfl ?_
              rotate_left
              · intro w' hSw
                have hx := HX0.out.below hSw; have c0 := hx.cal.cell 0 _ rfl; have c1 := hx.cal.cell 1 _ rfl; have hv := HV0.out.below HV0.out.lt hSw; have e0 := hv.cell _ _ HVV.out.1; have e1 := hv.cell _ _ HVV.out.2.1; have e2 := hv.cell _ _ HVV.out.2.2.1; have e3 := hv.cell _ _ HVV.out.2.2.2; have y0 := hv.cell _ _ HXX.out.1; have y1 := hv.cell _ _ HXX.out.2.1; have y2 := hv.cell _ _ HXX.out.2.2.1; have y3 := hv.cell _ _ HXX.out.2.2.2
                go_simp <;> with_reducible rfl
              simp only [List.setIfInBounds_toArray, List.set_cons_succ, List.set_cons_zero]
              refine wpAnyH_takeD (i := 3) (v := ?_) 79 rfl (by kernel_rfl) (by kernel_rfl) (by kernel_rfl) (fun _ _ _ h => h) (Or.inl ⟨by rfl, ?_⟩) (by assumption) rfl ?_
              rotate_left
              · intro w' hSw
                have hx := HX0.out.below hSw; have c0 := hx.cal.cell 0 _ rfl; have c1 := hx.cal.cell 1 _ rfl; have hv := HV0.out.below HV0.out.lt hSw; have e0 := hv.cell _ _ HVV.out.1; have e1 := hv.cell _ _ HVV.out.2.1; have e2 := hv.cell _ _ HVV.out.2.2.1; have e3 := hv.cell _ _ HVV.out.2.2.2; have y0 := hv.cell _ _ HXX.out.1; have y1 := hv.cell _ _ HXX.out.2.1; have y2 := hv.cell _ _ HXX.out.2.2.1; have y3 := hv.cell _ _ HXX.out.2.2.2
                go_simp <;> with_reducible rfl
              simp only [List.setIfInBounds_toArray, List.set_cons_succ, List.set_cons_zero]
              refine wpAnyH_takeD (i := 4) (v := ?_) 80 rfl (by kernel_rfl) (by kernel_rfl) (by kernel_rfl) (fun _ _ _ h => h) (Or.inl ⟨by rfl, ?_⟩) (by assumption) rfl ?_
              rotate_left
              · intro w' hSw
                have hx := HX0.out.below hSw; have c0 := hx.cal.cell 0 _ rfl; have c1 := hx.cal.cell 1 _ rfl; have hv := HV0.out.below HV0.out.lt hSw; have e0 := hv.cell _ _ HVV.out.1; have e1 := hv.cell _ _ HVV.out.2.1; have e2 := hv.cell _ _ HVV.out.2.2.1; have e3 := hv.cell _ _ HVV.out.2.2.2; have y0 := hv.cell _ _ HXX.out.1; have y1 := hv.cell _ _ HXX.out.2.1; have y2 := hv.cell _ _ HXX.out.2.2.1; have y3 := hv.cell _ _ HXX.out.2.2.2
                go_simp <;> with_reducible rfl
              simp only [List.setIfInBounds_toArray, List.set_cons_succ, List.set_cons_zero]
              refine wpAnyH_takeD (i := 5) (v := ?_) 81 rfl (by kernel_rfl) (by kernel_rfl) (by kernel_rfl) (fun _ _ _ h => h) (Or.inl ⟨by rfl, ?_⟩) (by assumption) rfl ?_
              rotate_left
              · intro w' hSw
                have hx := HX0.out.below hSw; have c0 := hx.cal.cell 0 _ rfl; have c1 := hx.cal.cell 1 _ rfl; have hv := HV0.out.below HV0.out.lt hSw; have e0 := hv.cell _ _ HVV.out.1; have e1 := hv.cell _ _ HVV.out.2.1; have e2 := hv.cell _ _ HVV.out.2.2.1; have e3 := hv.cell _ _ HVV.out.2.2.2; have y0 := hv.cell _ _ HXX.out.1; have y1 := hv.cell _ _ HXX.out.2.1; have y2 := hv.cell _ _ HXX.out.2.2.1; have y3 := hv.cell _ _ HXX.out.2.2.2
                go_simp <;> with_reducible rfl
              simp only [List.setIfInBounds_toArray, List.set_cons_succ, List.set_cons_zero]
              refine wpAnyH_takeD (i := 6) (v := ?_) 82 rfl (by kernel_rfl) (by kernel_rfl) (by kernel_rfl) (fun _ _ _ h => h) (Or.inl ⟨by rfl, ?_⟩) (by assumption) rfl ?_
              rotate_left
              · intro w' hSw
                have hx := HX0.out.below hSw; have c0 := hx.cal.cell 0 _ rfl; have c1 := hx.cal.cell 1 _ rfl; have hv := HV0.out.below HV0.out.lt hSw; have e0 := hv.cell _ _ HVV.out.1; have e1 := hv.cell _ _ HVV.out.2.1; have e2 := hv.cell _ _ HVV.out.2.2.1; have e3 := hv.cell _ _ HVV.out.2.2.2; have y0 := hv.cell _ _ HXX.out.1; have y1 := hv.cell _ _ HXX.out.2.1; have y2 := hv.cell _ _ HXX.out.2.2.1; have y3 := hv.cell _ _ HXX.out.2.2.2
                go_simp <;> with_reducible rfl
              simp only [List.setIfInBounds_toArray, List.set_cons_succ, List.set_cons_zero]
              refine wpAnyH_takeD (i := 7) (v := ?_) 83 rfl (by kernel_rfl) (by kernel_rfl) (by kernel_rfl) (fun _ _ _ h => h) (Or.inl ⟨by rfl, ?_⟩) (by assumption) rfl ?_
              rotate_left
              · intro w' hSw
                have hx := HX0.out.below hSw; have c0 := hx.cal.cell 0 _ rfl; have c1 := hx.cal.cell 1 _ rfl; have hv := HV0.out.below HV0.out.lt hSw; have e0 := hv.cell _ _ HVV.out.1; have e1 := hv.cell _ _ HVV.out.2.1; have e2 := hv.cell _ _ HVV.out.2.2.1; have e3 := hv.cell _ _ HVV.out.2.2.2; have y0 := hv.cell _ _ HXX.out.1; have y1 := hv.cell _ _ HXX.out.2.1; have y2 := hv.cell _ _ HXX.out.2.2.1; have y3 := hv.cell _ _ HXX.out.2.2.2
                go_simp <;> with_reducible rfl
              simp only [List.setIfInBounds_toArray, List.set_cons_succ, List.set_cons_zero]
              refine wpAnyH_ready (rs := [8]) (by kernel_rfl) (by simp) ?_
              refine AllReadyH.cons (o := _) rfl (fun K hK => ?_) AllReadyH.nil
              go_simp
              go_at_call 8
              refine (HSC.out _ (HB0.out.trans (HUV.out.mono HB0.out.size))).mono ?_
              rintro e w2 ⟨rfl, hb⟩
              have HB2 := Lib.hid (HUV.out.trans (hb.mono HUV.out.size))
              clear hb
              refine hK.out _ _ HB2.out (fun hHeldHB2 => ?_)
              clear hK K
              refine wpAnyH_takeD (i := 9) (v := ?_) 75 rfl (by kernel_rfl) (by kernel_rfl) (by kernel_rfl) (fun _ _ _ h => h) (Or.inl ⟨by rfl, ?_⟩) (by assumption) rfl ?_
              rotate_left
              · intro w' hSw
                have hx := HX0.out.below hSw; have c0 := hx.cal.cell 0 _ rfl; have c1 := hx.cal.cell 1 _ rfl; have hv := HV0.out.below HV0.out.lt hSw; have e0 := hv.cell _ _ HVV.out.1; have e1 := hv.cell _ _ HVV.out.2.1; have e2 := hv.cell _ _ HVV.out.2.2.1; have e3 := hv.cell _ _ HVV.out.2.2.2; have y0 := hv.cell _ _ HXX.out.1; have y1 := hv.cell _ _ HXX.out.2.1; have y2 := hv.cell _ _ HXX.out.2.2.1; have y3 := hv.cell _ _ HXX.out.2.2.2
                go_simp <;> with_reducible rfl
              simp only [List.setIfInBounds_toArray, List.set_cons_succ, List.set_cons_zero]
              refine wpAnyH_takeD (i := 10) (v := ?_) 85 rfl (by kernel_rfl) (by kernel_rfl) (by kernel_rfl) (fun _ _ _ h => h) (Or.inl ⟨by rfl, ?_⟩) (by assumption) rfl ?_
              rotate_left
              · intro w' hSw
                have hx := HX0.out.below hSw; have c0 := hx.cal.cell 0 _ rfl; have c1 := hx.cal.cell 1 _ rfl; have hv := HV0.out.below HV0.out.lt hSw; have e0 := hv.cell _ _ HVV.out.1; have e1 := hv.cell _ _ HVV.out.2.1; have e2 := hv.cell _ _ HVV.out.2.2.1; have e3 := hv.cell _ _ HVV.out.2.2.2; have y0 := hv.cell _ _ HXX.out.1; have y1 := hv.cell _ _ HXX.out.2.1; have y2 := hv.cell _ _ HXX.out.2.2.1; have y3 := hv.cell _ _ HXX.out.2.2.2
                go_simp <;> with_reducible rfl
              simp only [List.setIfInBounds_toArray, List.set_cons_succ, List.set_cons_zero]
              refine wpAnyH_takeD (i := 11) (v := ?_) 86 rfl (by kernel_rfl) (by kernel_rfl) (by kernel_rfl) (fun _ _ _ h => h) (Or.inl ⟨by rfl, ?_⟩) (by assumption) rfl ?_
              rotate_left
              · intro w' hSw
                have hx := HX0.out.below hSw; have c0 := hx.cal.cell 0 _ rfl; have c1 := hx.cal.cell 1 _ rfl; have hv := HV0.out.below HV0.out.lt hSw; have e0 := hv.cell _ _ HVV.out.1; have e1 := hv.cell _ _ HVV.out.2.1; have e2 := hv.cell _ _ HVV.out.2.2.1; have e3 := hv.cell _ _ HVV.out.2.2.2; have y0 := hv.cell _ _ HXX.out.1; have y1 := hv.cell _ _ HXX.out.2.1; have y2 := hv.cell _ _ HXX.out.2.2.1; have y3 := hv.cell _ _ HXX.out.2.2.2
                go_simp <;> with_reducible rfl
              simp only [List.setIfInBounds_toArray, List.set_cons_succ, List.set_cons_zero]
              refine wpAnyH_takeD (i := 12) (v := ?_) 18 rfl (by kernel_rfl) (by kernel_rfl) (by kernel_rfl) (fun _ _ _ h => h) (Or.inl ⟨by rfl, ?_⟩) (by assumption) rfl ?_
              rotate_left
              · intro w' hSw
                have hx := HX0.out.below hSw; have c0 := hx.cal.cell 0 _ rfl; have c1 := hx.cal.cell 1 _ rfl; have hv := HV0.out.below HV0.out.lt hSw; have e0 := hv.cell _ _ HVV.out.1; have e1 := hv.cell _ _ HVV.out.2.1; have e2 := hv.cell _ _ HVV.out.2.2.1; have e3 := hv.cell _ _ HVV.out.2.2.2; have y0 := hv.cell _ _ HXX.out.1; have y1 := hv.cell _ _ HXX.out.2.1; have y2 := hv.cell _ _ HXX.out.2.2.1; have y3 := hv.cell _ _ HXX.out.2.2.2
                go_simp <;> with_reducible rfl
              simp only [List.setIfInBounds_toArray, List.set_cons_succ, List.set_cons_zero]
              refine wpAnyH_takeD (i := 13) (v := ?_) 19 rfl (by kernel_rfl) (by kernel_rfl) (by kernel_rfl) (fun _ _ _ h => h) (Or.inl ⟨by rfl, ?_⟩) (by assumption) rfl ?_
              rotate_left
              · intro w' hSw
                have hx := HX0.out.below hSw; have c0 := hx.cal.cell 0 _ rfl; have c1 := hx.cal.cell 1 _ rfl; have hv := HV0.out.below HV0.out.lt hSw; have e0 := hv.cell _ _ HVV.out.1; have e1 := hv.cell _ _ HVV.out.2.1; have e2 := hv.cell _ _ HVV.out.2.2.1; have e3 := hv.cell _ _ HVV.out.2.2.2; have y0 := hv.cell _ _ HXX.out.1; have y1 := hv.cell _ _ HXX.out.2.1; have y2 := hv.cell _ _ HXX.out.2.2.1; have y3 := hv.cell _ _ HXX.out.2.2.2
                go_simp <;> with_reducible rfl
              simp only [List.setIfInBounds_toArray, List.set_cons_succ, List.set_cons_zero]
              refine wpAnyH_done (by kernel_rfl) ?_ _
              have HBw := Lib.hid (HB0.out.trans (HB2.out.mono HB0.out.size))
              have hX2 := HX0.out.below HB2.out
              have hV2 := HV0.out.below HV0.out.lt HB2.out
              have hU2 := HU0.out.below HU0.out.lt HB2.out
              rcases HSG.out with ⟨hp1, hs1⟩ | hsg2
              · have hp2 : ¬ 0 < p := by omega
                have hs2 : ¬ 0 < s := by omega
                go_wp2
                go_roundw
                case rel => exact ⟨n + 1, by go_num, by omega, hX2, hV2, hU2, HBw.out⟩
                case measure => simp [intOf]; omega
              · have hsn : 0 ≤ s := by omega
                have hp1 : ¬ p < 0 := by omega
                have hs1 : ¬ s < 0 := by omega
                have hps : decide (0 < p) = decide (0 < s) := decide_eq_decide.mpr (by omega)
                have l0 := hX2.loan.cell 0 _ rfl
                have l1 := hX2.loan.cell 1 _ rfl
                have l2 := hX2.loan.cell 2 _ rfl
                have l3 := hX2.loan.cell 3 _ rfl
                have HX3 := Lib.hid hX2
                have HV3 := Lib.hid hV2
                have HU3 := Lib.hid hU2
                clear hX2 hV2 hU2 HX0 HV0 HU0 hsg2
                go_upto_region 26 with (go_at_call 9; refine (HIT.out _ (HCZ.out _ HBw.out).2 hsn).mono ?_; rintro e w3 ⟨rfl, hb3⟩; simp only [rrV])
                have hB3 := (hb3.alloc hb3.size (.cells #[.int .i64 r.n, .int .i64 r.d] 27))
                have hT := Cel.new w3 27 #[.int .i64 r.n, .int .i64 r.d]
                obtain ⟨V3, hV3⟩ : ∃ V3, w3.alloc (.cells #[.int .i64 r.n, .int .i64 r.d] 27) = V3 := ⟨_, rfl⟩
                rw [hV3] at hB3 hT ⊢
                obtain ⟨B20, hB20⟩ : ∃ B20, w3.heap.size = B20 := ⟨_, rfl⟩
                rw [hB20] at hT ⊢
                have HX4 := Lib.hid (HX3.out.below hB3)
                have HV4 := Lib.hid (HV3.out.below HV3.out.lt hB3)
                have HU4 := Lib.hid (HU3.out.below HU3.out.lt hB3)
                have HB4 := Lib.hid (HBw.out.trans (hB3.mono HBw.out.size))
                have HT4 := Lib.hid hT
                have h20 := hT.lt
                have h11 := HU4.out.lt
                clear hB3 hT hV3 hB20 hb3 HX3 HV3 HU3 HBw l0 l1 l2 l3 HUU HUV HB1 HB2 hHeldHB2 hn3 hn11
                go_cut [21, 19] (fun t21 t19 wx => ∃ (B9 : Nat) (Wc : World), Wc = wx ∧ t21 = .pointer (some ⟨B9, 0, none⟩) ∧ t19 = .int .i64 r2.e ∧ V3.heap.size ≤ B9 ∧ Cel wx B9 27 #[.int .i64 r2.n, .int .i64 r2.d] ∧ Below V3.heap.size V3 wx)
                case first =>
                  have HUU := Lib.hid (show Below V3.heap.size V3 V3.drew from below_drew (Below.refl _ _))
                  refine wp_region_held_drew (S := fun w' => Below V3.heap.size V3 w') (by kernel_rfl) (below_drew (Below.refl _ _)) (fun hHeld => ?_)
                  obtain ⟨U, hU⟩ : ∃ U, V3.drew = U := ⟨_, rfl⟩
                  rw [hU] at HUU hHeld ⊢
                  clear hU
                  refine wpAnyH_takeD (i := 0) (v := ?_) 119 rfl (by kernel_rfl) (by kernel_rfl) (by kernel_rfl) (fun _ _ _ h => h) (Or.inl ⟨by rfl, ?_⟩) (by assumption) rfl ?_
                  rotate_left
                  · intro w' hSw
                    have hx := HX4.out.below hSw; have l0 := hx.loan.cell 0 _ rfl; have l1 := hx.loan.cell 1 _ rfl; have hu := HU4.out.below h11 hSw; have e0 := hu.cell _ _ HOO.out.1; have e1 := hu.cell _ _ HOO.out.2.1; have e2 := hu.cell _ _ HOO.out.2.2.1; have e3 := hu.cell _ _ HOO.out.2.2.2; have ht := HT4.out.below h20 hSw; have t0 := ht.cell 0 _ rfl; have t1 := ht.cell 1 _ rfl
                    go_simp <;> with_reducible rfl
                  simp only [List.setIfInBounds_toArray, List.set_cons_succ, List.set_cons_zero]
                  refine wpAnyH_takeD (i := 1) (v := ?_) 120 rfl (by kernel_rfl) (by kernel_rfl) (by kernel_rfl) (fun _ _ _ h => h) (Or.inl ⟨by rfl, ?_⟩) (by assumption) rfl ?_
                  rotate_left
                  · intro w' hSw
                    have hx := HX4.out.below hSw; have l0 := hx.loan.cell 0 _ rfl; have l1 := hx.loan.cell 1 _ rfl; have hu := HU4.out.below h11 hSw; have e0 := hu.cell _ _ HOO.out.1; have e1 := hu.cell _ _ HOO.out.2.1; have e2 := hu.cell _ _ HOO.out.2.2.1; have e3 := hu.cell _ _ HOO.out.2.2.2; have ht := HT4.out.below h20 hSw; have t0 := ht.cell 0 _ rfl; have t1 := ht.cell 1 _ rfl
                    go_simp <;> with_reducible rfl
                  simp only [List.setIfInBounds_toArray, List.set_cons_succ, List.set_cons_zero]
                  refine wpAnyH_takeD (i := 2) (v := ?_) 121 rfl (by kernel_rfl) (by kernel_rfl) (by kernel_rfl) (fun _ _ _ h => h) (Or.inl ⟨by rfl, ?_⟩) (by assumption) rfl ?_
                  rotate_left
                  · intro w' hSw
                    have hx := HX4.out.below hSw; have l0 := hx.loan.cell 0 _ rfl; have l1 := hx.loan.cell 1 _ rfl; have hu := HU4.out.below h11 hSw; have e0 := hu.cell _ _ HOO.out.1; have e1 := hu.cell _ _ HOO.out.2.1; have e2 := hu.cell _ _ HOO.out.2.2.1; have e3 := hu.cell _ _ HOO.out.2.2.2; have ht := HT4.out.below h20 hSw; have t0 := ht.cell 0 _ rfl; have t1 := ht.cell 1 _ rfl
                    go_simp <;> with_reducible rfl
                  simp only [List.setIfInBounds_toArray, List.set_cons_succ, List.set_cons_zero]
                  refine wpAnyH_takeD (i := 3) (v := ?_) 122 rfl (by kernel_rfl) (by kernel_rfl) (by kernel_rfl) (fun _ _ _ h => h) (Or.inl ⟨by rfl, ?_⟩) (by assumption) rfl ?_
                  rotate_left
                  · intro w' hSw
                    have hx := HX4.out.below hSw; have l0 := hx.loan.cell 0 _ rfl; have l1 := hx.loan.cell 1 _ rfl; have hu := HU4.out.below h11 hSw; have e0 := hu.cell _ _ HOO.out.1; have e1 := hu.cell _ _ HOO.out.2.1; have e2 := hu.cell _ _ HOO.out.2.2.1; have e3 := hu.cell _ _ HOO.out.2.2.2; have ht := HT4.out.below h20 hSw; have t0 := ht.cell 0 _ rfl; have t1 := ht.cell 1 _ rfl
                    go_simp <;> with_reducible rfl
                  simp only [List.setIfInBounds_toArray, List.set_cons_succ, List.set_cons_zero]
                  refine wpAnyH_takeD (i := 4) (v := ?_) 123 rfl (by kernel_rfl) (by kernel_rfl) (by kernel_rfl) (fun _ _ _ h => h) (Or.inl ⟨by rfl, ?_⟩) (by assumption) rfl ?_
                  rotate_left
                  · intro w' hSw
                    have hx := HX4.out.below hSw; have l0 := hx.loan.cell 0 _ rfl; have l1 := hx.loan.cell 1 _ rfl; have hu := HU4.out.below h11 hSw; have e0 := hu.cell _ _ HOO.out.1; have e1 := hu.cell _ _ HOO.out.2.1; have e2 := hu.cell _ _ HOO.out.2.2.1; have e3 := hu.cell _ _ HOO.out.2.2.2; have ht := HT4.out.below h20 hSw; have t0 := ht.cell 0 _ rfl; have t1 := ht.cell 1 _ rfl
                    go_simp <;> with_reducible rfl
                  simp only [List.setIfInBounds_toArray, List.set_cons_succ, List.set_cons_zero]
                  refine wpAnyH_ready (rs := [5, 9]) (by kernel_rfl) (by simp) ?_
                  refine AllReadyH.cons (o := _) rfl (fun K hK => ?_) (AllReadyH.cons (o := _) rfl (fun K hK => ?_) AllReadyH.nil)
                  · go_simp
                    go_at_call 10
                    refine (HAD.out _ (HCZ.out _ (HB4.out.trans (HUU.out.mono HB4.out.size))).2).mono ?_
                    rintro e w1 ⟨rfl, hb⟩
                    simp only [rrV]
                    have HB1 := Lib.hid (HUU.out.trans (hb.mono HUU.out.size))
                    clear hb
                    refine hK.out _ _ HB1.out (fun hHeld1 => ?_)
                    clear hK K
                    refine wpAnyH_takeD (i := 6) (v := ?_) 118 rfl (by kernel_rfl) (by kernel_rfl) (by kernel_rfl) (fun _ _ _ h => h) (Or.inl ⟨by rfl, ?_⟩) (by assumption) rfl ?_
                    rotate_left
                    · intro w' hSw
                      go_simp <;> with_reducible rfl
                    simp only [List.setIfInBounds_toArray, List.set_cons_succ, List.set_cons_zero]
                    refine wpAnyH_takeD (i := 7) (v := ?_) 125 rfl (by kernel_rfl) (by kernel_rfl) (by kernel_rfl) (fun _ _ _ h => h) (Or.inl ⟨by rfl, ?_⟩) (by assumption) rfl ?_
                    rotate_left
                    · intro w' hSw
                      go_simp <;> with_reducible rfl
                    simp only [List.setIfInBounds_toArray, List.set_cons_succ, List.set_cons_zero]
                    refine wpAnyH_takeD (i := 8) (v := ?_) 126 rfl (by kernel_rfl) (by kernel_rfl) (by kernel_rfl) (fun _ _ _ h => h) (Or.inl ⟨by rfl, ?_⟩) (by assumption) rfl ?_
                    rotate_left
                    · intro w' hSw
                      go_simp <;> with_reducible rfl
                    simp only [List.setIfInBounds_toArray, List.set_cons_succ, List.set_cons_zero]
                    refine wpAnyH_ready (rs := [9]) (by kernel_rfl) (by simp) ?_
                    refine AllReadyH.cons (o := _) rfl (fun K hK => ?_) AllReadyH.nil
                    go_simp
                    have HBa := Lib.hid (HB1.out.alloc HB1.out.size (.cells #[.int .i64 0, .int .i64 0] 27))
                    have HT := Lib.hid (Cel.new w1 27 #[.int .i64 0, .int .i64 0])
                    have hB9 : V3.heap.size ≤ w1.heap.size := HB1.out.size
                    refine hK.out _ _ HBa.out (fun hHeldA => ?_)
                    obtain ⟨wa, hwa⟩ : ∃ wa, w1.alloc (.cells #[.int .i64 0, .int .i64 0] 27) = wa := ⟨_, rfl⟩
                    rw [hwa] at HBa HT hHeldA ⊢
                    obtain ⟨B9, hB9'⟩ : ∃ B9, w1.heap.size = B9 := ⟨_, rfl⟩
                    rw [hB9'] at HT hB9 ⊢
                    clear hwa hB9'
                    clear hK K
                    have f0 := HT.out.frozen 0
                    have f1 := HT.out.frozen 1
                    have q0 := HT.out.cell 0 _ rfl
                    have q1 := HT.out.cell 1 _ rfl
                    refine wpAnyH_ready (rs := [10]) (by kernel_rfl) (by simp) ?_
                    refine AllReadyH.cons (o := _) rfl (fun K hK => ?_) AllReadyH.nil
                    go_simp
                    have HT9 := Lib.hid ((HT.out.setAt 0 (.int .i64 r2.n)).setAt 1 (.int .i64 r2.d))
                    have hgs := (grown_set wa B9 0 (.int .i64 r2.n)).trans (grown_set _ B9 1 (.int .i64 r2.d))
                    have HB9 := Lib.hid (HBa.out.grown hgs (by have := HBa.out.size; omega) (fun j e => by cases e; omega))
                    refine hK.out _ _ HB9.out (fun hHeld9 => ?_)
                    clear hK K
                    refine wpAnyH_takeD (i := 11) (v := ?_) 19 rfl (by kernel_rfl) (by kernel_rfl) (by kernel_rfl) (fun _ _ _ h => h) (Or.inl ⟨by rfl, ?_⟩) (by assumption) rfl ?_
                    rotate_left
                    · intro w' hSw
                      go_simp <;> with_reducible rfl
                    simp only [List.setIfInBounds_toArray, List.set_cons_succ, List.set_cons_zero]
                    refine wpAnyH_done (by kernel_rfl) ?_ _
                    go_wp2
                    go_meet
                    exact ⟨B9, _, rfl, rfl, rfl, hB9, HT9.out, HB9.out⟩
                  · go_simp
                    have HBa := Lib.hid (HUU.out.alloc HUU.out.size (.cells #[.int .i64 0, .int .i64 0] 27))
                    have HT := Lib.hid (Cel.new U 27 #[.int .i64 0, .int .i64 0])
                    have hB9 : V3.heap.size ≤ U.heap.size := HUU.out.size
                    refine hK.out _ _ HBa.out (fun hHeldA => ?_)
                    obtain ⟨wa, hwa⟩ : ∃ wa, U.alloc (.cells #[.int .i64 0, .int .i64 0] 27) = wa := ⟨_, rfl⟩
                    rw [hwa] at HBa HT hHeldA ⊢
                    obtain ⟨B9, hB9'⟩ : ∃ B9, U.heap.size = B9 := ⟨_, rfl⟩
                    rw [hB9'] at HT hB9 ⊢
                    clear hwa hB9'
                    clear hK K
                    refine wpAnyH_ready (rs := [5]) (by kernel_rfl) (by simp) ?_
                    refine AllReadyH.cons (o := _) rfl (fun K hK => ?_) AllReadyH.nil
                    go_simp
                    go_at_call 10
                    refine (HAD.out _ (HCZ.out _ (HB4.out.trans (HBa.out.mono HB4.out.size))).2).mono ?_
                    rintro e w1 ⟨rfl, hb⟩
                    simp only [rrV]
                    have HB1 := Lib.hid (HBa.out.trans (hb.mono HBa.out.size))
                    have HT := Lib.hid (HT.out.below HT.out.lt hb)
                    clear hb
                    refine hK.out _ _ HB1.out (fun hHeld1 => ?_)
                    clear hK K
                    refine wpAnyH_takeD (i := 6) (v := ?_) 118 rfl (by kernel_rfl) (by kernel_rfl) (by kernel_rfl) (fun _ _ _ h => h) (Or.inl ⟨by rfl, ?_⟩) (by assumption) rfl ?_
                    rotate_left
                    · intro w' hSw
                      go_simp <;> with_reducible rfl
                    simp only [List.setIfInBounds_toArray, List.set_cons_succ, List.set_cons_zero]
                    refine wpAnyH_takeD (i := 7) (v := ?_) 125 rfl (by kernel_rfl) (by kernel_rfl) (by kernel_rfl) (fun _ _ _ h => h) (Or.inl ⟨by rfl, ?_⟩) (by assumption) rfl ?_
                    rotate_left
                    · intro w' hSw
                      go_simp <;> with_reducible rfl
                    simp only [List.setIfInBounds_toArray, List.set_cons_succ, List.set_cons_zero]
                    refine wpAnyH_takeD (i := 8) (v := ?_) 126 rfl (by kernel_rfl) (by kernel_rfl) (by kernel_rfl) (fun _ _ _ h => h) (Or.inl ⟨by rfl, ?_⟩) (by assumption) rfl ?_
                    rotate_left
                    · intro w' hSw
                      go_simp <;> with_reducible rfl
                    simp only [List.setIfInBounds_toArray, List.set_cons_succ, List.set_cons_zero]
                    have f0 := HT.out.frozen 0
                    have f1 := HT.out.frozen 1
                    have q0 := HT.out.cell 0 _ rfl
                    have q1 := HT.out.cell 1 _ rfl
                    refine wpAnyH_ready (rs := [10]) (by kernel_rfl) (by simp) ?_
                    refine AllReadyH.cons (o := _) rfl (fun K hK => ?_) AllReadyH.nil
                    go_simp
                    have HT9 := Lib.hid ((HT.out.setAt 0 (.int .i64 r2.n)).setAt 1 (.int .i64 r2.d))
                    have hgs := (grown_set w1 B9 0 (.int .i64 r2.n)).trans (grown_set _ B9 1 (.int .i64 r2.d))
                    have HB9 := Lib.hid (HB1.out.grown hgs (by have := HB1.out.size; omega) (fun j e => by cases e; omega))
                    refine hK.out _ _ HB9.out (fun hHeld9 => ?_)
                    clear hK K
                    refine wpAnyH_takeD (i := 11) (v := ?_) 19 rfl (by kernel_rfl) (by kernel_rfl) (by kernel_rfl) (fun _ _ _ h => h) (Or.inl ⟨by rfl, ?_⟩) (by assumption) rfl ?_
                    rotate_left
                    · intro w' hSw
                      go_simp <;> with_reducible rfl
                    simp only [List.setIfInBounds_toArray, List.set_cons_succ, List.set_cons_zero]
                    refine wpAnyH_done (by kernel_rfl) ?_ _
                    go_wp2
                    go_meet
                    exact ⟨B9, _, rfl, rfl, rfl, hB9, HT9.out, HB9.out⟩
                case rest =>
                  obtain ⟨B9, Wc, rfl, rfl, rfl, hB9, hT, hB⟩ := hcut
                  have HX5 := Lib.hid (HX4.out.below hB)
                  have HV5 := Lib.hid (HV4.out.below HV4.out.lt hB)
                  have HU5 := Lib.hid (HU4.out.below HU4.out.lt hB)
                  have HB5 := Lib.hid (HB4.out.trans (hB.mono HB4.out.size))
                  have HT5 := Lib.hid hT
                  have h9 := hT.lt
                  have h11 := HU5.out.lt
                  clear hB hT
                  by_cases he : r.e = 0
                  · have e2 := HNX.out he
                    subst e2
                    simp only at HT5
                    go_upto_region 27 with fail
                    refine wp_region_held_drew (S := fun w' => Below Wc.heap.size Wc w') (by kernel_rfl) (below_drew (Below.refl _ _)) (fun hHeld => ?_)
                    obtain ⟨U, hU⟩ : ∃ U, Wc.drew = U := ⟨_, rfl⟩
                    rw [hU] at hHeld ⊢
                    clear hU
                    refine wpAnyH_takeD (i := 0) (v := ?_) 127 rfl (by kernel_rfl) (by kernel_rfl) (by kernel_rfl) (fun _ _ _ h => h) (Or.inl ⟨by rfl, ?_⟩) (by assumption) rfl ?_
                    rotate_left
                    · intro w' hSw
                      have hx := HX5.out.below hSw; have l0 := hx.loan.cell 0 _ rfl; have l1 := hx.loan.cell 1 _ rfl; have hu := HU5.out.below h11 hSw; have e0 := hu.cell _ _ HOO.out.1; have e1 := hu.cell _ _ HOO.out.2.1; have e2 := hu.cell _ _ HQQ.out.2.2.1; have e3 := hu.cell _ _ HQQ.out.2.2.2; have ht := HT5.out.below h9 hSw; have t0 := ht.cell 0 _ rfl; have t1 := ht.cell 1 _ rfl
                      go_simp <;> with_reducible rfl
                    simp only [List.setIfInBounds_toArray, List.set_cons_succ, List.set_cons_zero]
                    refine wpAnyH_takeD (i := 1) (v := ?_) 128 rfl (by kernel_rfl) (by kernel_rfl) (by kernel_rfl) (fun _ _ _ h => h) (Or.inl ⟨by rfl, ?_⟩) (by assumption) rfl ?_
                    rotate_left
                    · intro w' hSw
                      have hx := HX5.out.below hSw; have l0 := hx.loan.cell 0 _ rfl; have l1 := hx.loan.cell 1 _ rfl; have hu := HU5.out.below h11 hSw; have e0 := hu.cell _ _ HOO.out.1; have e1 := hu.cell _ _ HOO.out.2.1; have e2 := hu.cell _ _ HQQ.out.2.2.1; have e3 := hu.cell _ _ HQQ.out.2.2.2; have ht := HT5.out.below h9 hSw; have t0 := ht.cell 0 _ rfl; have t1 := ht.cell 1 _ rfl
                      go_simp <;> with_reducible rfl
                    simp only [List.setIfInBounds_toArray, List.set_cons_succ, List.set_cons_zero]
                    refine wpAnyH_takeD (i := 2) (v := ?_) 129 rfl (by kernel_rfl) (by kernel_rfl) (by kernel_rfl) (fun _ _ _ h => h) (Or.inl ⟨by rfl, ?_⟩) (by assumption) rfl ?_
                    rotate_left
                    · intro w' hSw
                      have hx := HX5.out.below hSw; have l0 := hx.loan.cell 0 _ rfl; have l1 := hx.loan.cell 1 _ rfl; have hu := HU5.out.below h11 hSw; have e0 := hu.cell _ _ HOO.out.1; have e1 := hu.cell _ _ HOO.out.2.1; have e2 := hu.cell _ _ HQQ.out.2.2.1; have e3 := hu.cell _ _ HQQ.out.2.2.2; have ht := HT5.out.below h9 hSw; have t0 := ht.cell 0 _ rfl; have t1 := ht.cell 1 _ rfl
                      go_simp <;> with_reducible rfl
                    simp only [List.setIfInBounds_toArray, List.set_cons_succ, List.set_cons_zero]
                    refine wpAnyH_takeD (i := 3) (v := ?_) 130 rfl (by kernel_rfl) (by kernel_rfl) (by kernel_rfl) (fun _ _ _ h => h) (Or.inl ⟨by rfl, ?_⟩) (by assumption) rfl ?_
                    rotate_left
                    · intro w' hSw
                      have hx := HX5.out.below hSw; have l0 := hx.loan.cell 0 _ rfl; have l1 := hx.loan.cell 1 _ rfl; have hu := HU5.out.below h11 hSw; have e0 := hu.cell _ _ HOO.out.1; have e1 := hu.cell _ _ HOO.out.2.1; have e2 := hu.cell _ _ HQQ.out.2.2.1; have e3 := hu.cell _ _ HQQ.out.2.2.2; have ht := HT5.out.below h9 hSw; have t0 := ht.cell 0 _ rfl; have t1 := ht.cell 1 _ rfl
                      go_simp <;> with_reducible rfl
                    simp only [List.setIfInBounds_toArray, List.set_cons_succ, List.set_cons_zero]
                    refine wpAnyH_takeD (i := 4) (v := ?_) 131 rfl (by kernel_rfl) (by kernel_rfl) (by kernel_rfl) (fun _ _ _ h => h) (Or.inl ⟨by rfl, ?_⟩) (by assumption) rfl ?_
                    rotate_left
                    · intro w' hSw
                      have hx := HX5.out.below hSw; have l0 := hx.loan.cell 0 _ rfl; have l1 := hx.loan.cell 1 _ rfl; have hu := HU5.out.below h11 hSw; have e0 := hu.cell _ _ HOO.out.1; have e1 := hu.cell _ _ HOO.out.2.1; have e2 := hu.cell _ _ HQQ.out.2.2.1; have e3 := hu.cell _ _ HQQ.out.2.2.2; have ht := HT5.out.below h9 hSw; have t0 := ht.cell 0 _ rfl; have t1 := ht.cell 1 _ rfl
                      go_simp <;> with_reducible rfl
                    simp only [List.setIfInBounds_toArray, List.set_cons_succ, List.set_cons_zero]
                    refine wpAnyH_takeD (i := 5) (v := ?_) 132 rfl (by kernel_rfl) (by kernel_rfl) (by kernel_rfl) (fun _ _ _ h => h) (Or.inl ⟨by rfl, ?_⟩) (by assumption) rfl ?_
                    rotate_left
                    · intro w' hSw
                      have hx := HX5.out.below hSw; have l0 := hx.loan.cell 0 _ rfl; have l1 := hx.loan.cell 1 _ rfl; have hu := HU5.out.below h11 hSw; have e0 := hu.cell _ _ HOO.out.1; have e1 := hu.cell _ _ HOO.out.2.1; have e2 := hu.cell _ _ HQQ.out.2.2.1; have e3 := hu.cell _ _ HQQ.out.2.2.2; have ht := HT5.out.below h9 hSw; have t0 := ht.cell 0 _ rfl; have t1 := ht.cell 1 _ rfl
                      go_simp <;> with_reducible rfl
                    simp only [List.setIfInBounds_toArray, List.set_cons_succ, List.set_cons_zero]
                    refine wpAnyH_takeD (i := 6) (v := ?_) 133 rfl (by kernel_rfl) (by kernel_rfl) (by kernel_rfl) (fun _ _ _ h => h) (Or.inl ⟨by rfl, ?_⟩) (by assumption) rfl ?_
                    rotate_left
                    · intro w' hSw
                      have hx := HX5.out.below hSw; have l0 := hx.loan.cell 0 _ rfl; have l1 := hx.loan.cell 1 _ rfl; have hu := HU5.out.below h11 hSw; have e0 := hu.cell _ _ HOO.out.1; have e1 := hu.cell _ _ HOO.out.2.1; have e2 := hu.cell _ _ HQQ.out.2.2.1; have e3 := hu.cell _ _ HQQ.out.2.2.2; have ht := HT5.out.below h9 hSw; have t0 := ht.cell 0 _ rfl; have t1 := ht.cell 1 _ rfl
                      go_simp <;> with_reducible rfl
                    simp only [List.setIfInBounds_toArray, List.set_cons_succ, List.set_cons_zero]
                    refine wpAnyH_takeD (i := 7) (v := ?_) 134 rfl (by kernel_rfl) (by kernel_rfl) (by kernel_rfl) (fun _ _ _ h => h) (Or.inl ⟨by rfl, ?_⟩) (by assumption) rfl ?_
                    rotate_left
                    · intro w' hSw
                      have hx := HX5.out.below hSw; have l0 := hx.loan.cell 0 _ rfl; have l1 := hx.loan.cell 1 _ rfl; have hu := HU5.out.below h11 hSw; have e0 := hu.cell _ _ HOO.out.1; have e1 := hu.cell _ _ HOO.out.2.1; have e2 := hu.cell _ _ HQQ.out.2.2.1; have e3 := hu.cell _ _ HQQ.out.2.2.2; have ht := HT5.out.below h9 hSw; have t0 := ht.cell 0 _ rfl; have t1 := ht.cell 1 _ rfl
                      go_simp <;> with_reducible rfl
                    simp only [List.setIfInBounds_toArray, List.set_cons_succ, List.set_cons_zero]
                    refine wpAnyH_takeD (i := 8) (v := ?_) 135 rfl (by kernel_rfl) (by kernel_rfl) (by kernel_rfl) (fun _ _ _ h => h) (Or.inl ⟨by rfl, ?_⟩) (by assumption) rfl ?_
                    rotate_left
                    · intro w' hSw
                      have hx := HX5.out.below hSw; have l0 := hx.loan.cell 0 _ rfl; have l1 := hx.loan.cell 1 _ rfl; have hu := HU5.out.below h11 hSw; have e0 := hu.cell _ _ HOO.out.1; have e1 := hu.cell _ _ HOO.out.2.1; have e2 := hu.cell _ _ HQQ.out.2.2.1; have e3 := hu.cell _ _ HQQ.out.2.2.2; have ht := HT5.out.below h9 hSw; have t0 := ht.cell 0 _ rfl; have t1 := ht.cell 1 _ rfl
                      go_simp <;> with_reducible rfl
                    simp only [List.setIfInBounds_toArray, List.set_cons_succ, List.set_cons_zero]
                    refine wpAnyH_takeD (i := 9) (v := ?_) 136 rfl (by kernel_rfl) (by kernel_rfl) (by kernel_rfl) (fun _ _ _ h => h) (Or.inl ⟨by rfl, ?_⟩) (by assumption) rfl ?_
                    rotate_left
                    · intro w' hSw
                      have hx := HX5.out.below hSw; have l0 := hx.loan.cell 0 _ rfl; have l1 := hx.loan.cell 1 _ rfl; have hu := HU5.out.below h11 hSw; have e0 := hu.cell _ _ HOO.out.1; have e1 := hu.cell _ _ HOO.out.2.1; have e2 := hu.cell _ _ HQQ.out.2.2.1; have e3 := hu.cell _ _ HQQ.out.2.2.2; have ht := HT5.out.below h9 hSw; have t0 := ht.cell 0 _ rfl; have t1 := ht.cell 1 _ rfl
                      go_simp <;> with_reducible rfl
                    simp only [List.setIfInBounds_toArray, List.set_cons_succ, List.set_cons_zero]
                    refine wpAnyH_takeD (i := 10) (v := ?_) 137 rfl (by kernel_rfl) (by kernel_rfl) (by kernel_rfl) (fun _ _ _ h => h) (Or.inl ⟨by rfl, ?_⟩) (by assumption) rfl ?_
                    rotate_left
                    · intro w' hSw
                      have hx := HX5.out.below hSw; have l0 := hx.loan.cell 0 _ rfl; have l1 := hx.loan.cell 1 _ rfl; have hu := HU5.out.below h11 hSw; have e0 := hu.cell _ _ HOO.out.1; have e1 := hu.cell _ _ HOO.out.2.1; have e2 := hu.cell _ _ HQQ.out.2.2.1; have e3 := hu.cell _ _ HQQ.out.2.2.2; have ht := HT5.out.below h9 hSw; have t0 := ht.cell 0 _ rfl; have t1 := ht.cell 1 _ rfl
                      go_simp <;> with_reducible rfl
                    simp only [List.setIfInBounds_toArray, List.set_cons_succ, List.set_cons_zero]
                    refine wpAnyH_takeD (i := 11) (v := ?_) 138 rfl (by kernel_rfl) (by kernel_rfl) (by kernel_rfl) (fun _ _ _ h => h) (Or.inl ⟨by rfl, ?_⟩) (by assumption) rfl ?_
                    rotate_left
                    · intro w' hSw
                      have hx := HX5.out.below hSw; have l0 := hx.loan.cell 0 _ rfl; have l1 := hx.loan.cell 1 _ rfl; have hu := HU5.out.below h11 hSw; have e0 := hu.cell _ _ HOO.out.1; have e1 := hu.cell _ _ HOO.out.2.1; have e2 := hu.cell _ _ HQQ.out.2.2.1; have e3 := hu.cell _ _ HQQ.out.2.2.2; have ht := HT5.out.below h9 hSw; have t0 := ht.cell 0 _ rfl; have t1 := ht.cell 1 _ rfl
                      go_simp <;> with_reducible rfl
                    simp only [List.setIfInBounds_toArray, List.set_cons_succ, List.set_cons_zero]
                    refine wpAnyH_takeD (i := 12) (v := ?_) 139 rfl (by kernel_rfl) (by kernel_rfl) (by kernel_rfl) (fun _ _ _ h => h) (Or.inl ⟨by rfl, ?_⟩) (by assumption) rfl ?_
                    rotate_left
                    · intro w' hSw
                      have hx := HX5.out.below hSw; have l0 := hx.loan.cell 0 _ rfl; have l1 := hx.loan.cell 1 _ rfl; have hu := HU5.out.below h11 hSw; have e0 := hu.cell _ _ HOO.out.1; have e1 := hu.cell _ _ HOO.out.2.1; have e2 := hu.cell _ _ HQQ.out.2.2.1; have e3 := hu.cell _ _ HQQ.out.2.2.2; have ht := HT5.out.below h9 hSw; have t0 := ht.cell 0 _ rfl; have t1 := ht.cell 1 _ rfl
                      go_simp <;> with_reducible rfl
                    simp only [List.setIfInBounds_toArray, List.set_cons_succ, List.set_cons_zero]
                    refine wpAnyH_takeD (i := 13) (v := ?_) 140 rfl (by kernel_rfl) (by kernel_rfl) (by kernel_rfl) (fun _ _ _ h => h) (Or.inl ⟨by rfl, ?_⟩) (by assumption) rfl ?_
                    rotate_left
                    · intro w' hSw
                      have hx := HX5.out.below hSw; have l0 := hx.loan.cell 0 _ rfl; have l1 := hx.loan.cell 1 _ rfl; have hu := HU5.out.below h11 hSw; have e0 := hu.cell _ _ HOO.out.1; have e1 := hu.cell _ _ HOO.out.2.1; have e2 := hu.cell _ _ HQQ.out.2.2.1; have e3 := hu.cell _ _ HQQ.out.2.2.2; have ht := HT5.out.below h9 hSw; have t0 := ht.cell 0 _ rfl; have t1 := ht.cell 1 _ rfl
                      go_simp <;> with_reducible rfl
                    simp only [List.setIfInBounds_toArray, List.set_cons_succ, List.set_cons_zero]
                    refine wpAnyH_takeD (i := 14) (v := ?_) 141 rfl (by kernel_rfl) (by kernel_rfl) (by kernel_rfl) (fun _ _ _ h => h) (Or.inl ⟨by rfl, ?_⟩) (by assumption) rfl ?_
                    rotate_left
                    · intro w' hSw
                      have hx := HX5.out.below hSw; have l0 := hx.loan.cell 0 _ rfl; have l1 := hx.loan.cell 1 _ rfl; have hu := HU5.out.below h11 hSw; have e0 := hu.cell _ _ HOO.out.1; have e1 := hu.cell _ _ HOO.out.2.1; have e2 := hu.cell _ _ HQQ.out.2.2.1; have e3 := hu.cell _ _ HQQ.out.2.2.2; have ht := HT5.out.below h9 hSw; have t0 := ht.cell 0 _ rfl; have t1 := ht.cell 1 _ rfl
                      go_simp <;> with_reducible rfl
                    simp only [List.setIfInBounds_toArray, List.set_cons_succ, List.set_cons_zero]
                    refine wpAnyH_takeD (i := 15) (v := ?_) 142 rfl (by kernel_rfl) (by kernel_rfl) (by kernel_rfl) (fun _ _ _ h => h) (Or.inl ⟨by rfl, ?_⟩) (by assumption) rfl ?_
                    rotate_left
                    · intro w' hSw
                      have hx := HX5.out.below hSw; have l0 := hx.loan.cell 0 _ rfl; have l1 := hx.loan.cell 1 _ rfl; have hu := HU5.out.below h11 hSw; have e0 := hu.cell _ _ HOO.out.1; have e1 := hu.cell _ _ HOO.out.2.1; have e2 := hu.cell _ _ HQQ.out.2.2.1; have e3 := hu.cell _ _ HQQ.out.2.2.2; have ht := HT5.out.below h9 hSw; have t0 := ht.cell 0 _ rfl; have t1 := ht.cell 1 _ rfl
                      go_simp <;> with_reducible rfl
                    simp only [List.setIfInBounds_toArray, List.set_cons_succ, List.set_cons_zero]
                    refine wpAnyH_takeD (i := 16) (v := ?_) 143 rfl (by kernel_rfl) (by kernel_rfl) (by kernel_rfl) (fun _ _ _ h => h) (Or.inl ⟨by rfl, ?_⟩) (by assumption) rfl ?_
                    rotate_left
                    · intro w' hSw
                      have hx := HX5.out.below hSw; have l0 := hx.loan.cell 0 _ rfl; have l1 := hx.loan.cell 1 _ rfl; have hu := HU5.out.below h11 hSw; have e0 := hu.cell _ _ HOO.out.1; have e1 := hu.cell _ _ HOO.out.2.1; have e2 := hu.cell _ _ HQQ.out.2.2.1; have e3 := hu.cell _ _ HQQ.out.2.2.2; have ht := HT5.out.below h9 hSw; have t0 := ht.cell 0 _ rfl; have t1 := ht.cell 1 _ rfl
                      go_simp <;> with_reducible rfl
                    simp only [List.setIfInBounds_toArray, List.set_cons_succ, List.set_cons_zero]
                    refine wpAnyH_takeD (i := 17) (v := ?_) 144 rfl (by kernel_rfl) (by kernel_rfl) (by kernel_rfl) (fun _ _ _ h => h) (Or.inl ⟨by rfl, ?_⟩) (by assumption) rfl ?_
                    rotate_left
                    · intro w' hSw
                      have hx := HX5.out.below hSw; have l0 := hx.loan.cell 0 _ rfl; have l1 := hx.loan.cell 1 _ rfl; have hu := HU5.out.below h11 hSw; have e0 := hu.cell _ _ HOO.out.1; have e1 := hu.cell _ _ HOO.out.2.1; have e2 := hu.cell _ _ HQQ.out.2.2.1; have e3 := hu.cell _ _ HQQ.out.2.2.2; have ht := HT5.out.below h9 hSw; have t0 := ht.cell 0 _ rfl; have t1 := ht.cell 1 _ rfl
                      go_simp <;> with_reducible rfl
                    simp only [List.setIfInBounds_toArray, List.set_cons_succ, List.set_cons_zero]
                    refine wpAnyH_takeD (i := 18) (v := ?_) 145 rfl (by kernel_rfl) (by kernel_rfl) (by kernel_rfl) (fun _ _ _ h => h) (Or.inl ⟨by rfl, ?_⟩) (by assumption) rfl ?_
                    rotate_left
                    · intro w' hSw
                      have hx := HX5.out.below hSw; have l0 := hx.loan.cell 0 _ rfl; have l1 := hx.loan.cell 1 _ rfl; have hu := HU5.out.below h11 hSw; have e0 := hu.cell _ _ HOO.out.1; have e1 := hu.cell _ _ HOO.out.2.1; have e2 := hu.cell _ _ HQQ.out.2.2.1; have e3 := hu.cell _ _ HQQ.out.2.2.2; have ht := HT5.out.below h9 hSw; have t0 := ht.cell 0 _ rfl; have t1 := ht.cell 1 _ rfl
                      go_simp <;> with_reducible rfl
                    simp only [List.setIfInBounds_toArray, List.set_cons_succ, List.set_cons_zero]
                    refine wpAnyH_takeD (i := 19) (v := ?_) 146 rfl (by kernel_rfl) (by kernel_rfl) (by kernel_rfl) (fun _ _ _ h => h) (Or.inl ⟨by rfl, ?_⟩) (by assumption) rfl ?_
                    rotate_left
                    · intro w' hSw
                      have hx := HX5.out.below hSw; have l0 := hx.loan.cell 0 _ rfl; have l1 := hx.loan.cell 1 _ rfl; have hu := HU5.out.below h11 hSw; have e0 := hu.cell _ _ HOO.out.1; have e1 := hu.cell _ _ HOO.out.2.1; have e2 := hu.cell _ _ HQQ.out.2.2.1; have e3 := hu.cell _ _ HQQ.out.2.2.2; have ht := HT5.out.below h9 hSw; have t0 := ht.cell 0 _ rfl; have t1 := ht.cell 1 _ rfl
                      go_simp <;> with_reducible rfl
                    simp only [List.setIfInBounds_toArray, List.set_cons_succ, List.set_cons_zero]
                    refine wpAnyH_takeD (i := 20) (v := ?_) 147 rfl (by kernel_rfl) (by kernel_rfl) (by kernel_rfl) (fun _ _ _ h => h) (Or.inl ⟨by rfl, ?_⟩) (by assumption) rfl ?_
                    rotate_left
                    · intro w' hSw
                      have hx := HX5.out.below hSw; have l0 := hx.loan.cell 0 _ rfl; have l1 := hx.loan.cell 1 _ rfl; have hu := HU5.out.below h11 hSw; have e0 := hu.cell _ _ HOO.out.1; have e1 := hu.cell _ _ HOO.out.2.1; have e2 := hu.cell _ _ HQQ.out.2.2.1; have e3 := hu.cell _ _ HQQ.out.2.2.2; have ht := HT5.out.below h9 hSw; have t0 := ht.cell 0 _ rfl; have t1 := ht.cell 1 _ rfl
                      go_simp <;> with_reducible rfl
                    simp only [List.setIfInBounds_toArray, List.set_cons_succ, List.set_cons_zero]
                    refine wpAnyH_takeD (i := 21) (v := ?_) 148 rfl (by kernel_rfl) (by kernel_rfl) (by kernel_rfl) (fun _ _ _ h => h) (Or.inl ⟨by rfl, ?_⟩) (by assumption) rfl ?_
                    rotate_left
                    · intro w' hSw
                      have hx := HX5.out.below hSw; have l0 := hx.loan.cell 0 _ rfl; have l1 := hx.loan.cell 1 _ rfl; have hu := HU5.out.below h11 hSw; have e0 := hu.cell _ _ HOO.out.1; have e1 := hu.cell _ _ HOO.out.2.1; have e2 := hu.cell _ _ HQQ.out.2.2.1; have e3 := hu.cell _ _ HQQ.out.2.2.2; have ht := HT5.out.below h9 hSw; have t0 := ht.cell 0 _ rfl; have t1 := ht.cell 1 _ rfl
                      go_simp <;> with_reducible rfl
                    simp only [List.setIfInBounds_toArray, List.set_cons_succ, List.set_cons_zero]
                    refine wpAnyH_takeD (i := 22) (v := ?_) 149 rfl (by kernel_rfl) (by kernel_rfl) (by kernel_rfl) (fun _ _ _ h => h) (Or.inl ⟨by rfl, ?_⟩) (by assumption) rfl ?_
                    rotate_left
                    · intro w' hSw
                      have hx := HX5.out.below hSw; have l0 := hx.loan.cell 0 _ rfl; have l1 := hx.loan.cell 1 _ rfl; have hu := HU5.out.below h11 hSw; have e0 := hu.cell _ _ HOO.out.1; have e1 := hu.cell _ _ HOO.out.2.1; have e2 := hu.cell _ _ HQQ.out.2.2.1; have e3 := hu.cell _ _ HQQ.out.2.2.2; have ht := HT5.out.below h9 hSw; have t0 := ht.cell 0 _ rfl; have t1 := ht.cell 1 _ rfl
                      go_simp <;> with_reducible rfl
                    simp only [List.setIfInBounds_toArray, List.set_cons_succ, List.set_cons_zero]
                    refine wpAnyH_takeD (i := 23) (v := ?_) 150 rfl (by kernel_rfl) (by kernel_rfl) (by kernel_rfl) (fun _ _ _ h => h) (Or.inl ⟨by rfl, ?_⟩) (by assumption) rfl ?_
                    rotate_left
                    · intro w' hSw
                      have hx := HX5.out.below hSw; have l0 := hx.loan.cell 0 _ rfl; have l1 := hx.loan.cell 1 _ rfl; have hu := HU5.out.below h11 hSw; have e0 := hu.cell _ _ HOO.out.1; have e1 := hu.cell _ _ HOO.out.2.1; have e2 := hu.cell _ _ HQQ.out.2.2.1; have e3 := hu.cell _ _ HQQ.out.2.2.2; have ht := HT5.out.below h9 hSw; have t0 := ht.cell 0 _ rfl; have t1 := ht.cell 1 _ rfl
                      go_simp <;> with_reducible rfl
                    simp only [List.setIfInBounds_toArray, List.set_cons_succ, List.set_cons_zero]
                    refine wpAnyH_done (by kernel_rfl) ?_ _
                    go_wp2
                    go_roundw
                    case rel => exact ⟨n + 1, by go_num, by omega, HX5.out.below hHeld, HV5.out.below HV5.out.lt hHeld, HU5.out.below HU5.out.lt hHeld, HB5.out.trans (hHeld.mono HB5.out.size)⟩
                    case measure => simp [intOf]; omega
                  · have hne : (r.e == 0) = false := by simpa using he
                    go_upto_region 27 with fail
                    refine wp_region_held_drew (S := fun w' => Below Wc.heap.size Wc w') (by kernel_rfl) (below_drew (Below.refl _ _)) (fun hHeld => ?_)
                    obtain ⟨U, hU⟩ : ∃ U, Wc.drew = U := ⟨_, rfl⟩
                    rw [hU] at hHeld ⊢
                    clear hU
                    refine wpAnyH_takeD (i := 0) (v := ?_) 127 rfl (by kernel_rfl) (by kernel_rfl) (by kernel_rfl) (fun _ _ _ h => h) (Or.inl ⟨by rfl, ?_⟩) (by assumption) rfl ?_
                    rotate_left
                    · intro w' hSw
                      have hx := HX5.out.below hSw; have l0 := hx.loan.cell 0 _ rfl; have l1 := hx.loan.cell 1 _ rfl; have hu := HU5.out.below h11 hSw; have e0 := hu.cell _ _ HOO.out.1; have e1 := hu.cell _ _ HOO.out.2.1; have e2 := hu.cell _ _ HQQ.out.2.2.1; have e3 := hu.cell _ _ HQQ.out.2.2.2; have ht := HT5.out.below h9 hSw; have t0 := ht.cell 0 _ rfl; have t1 := ht.cell 1 _ rfl
                      go_simp <;> with_reducible rfl
                    simp only [List.setIfInBounds_toArray, List.set_cons_succ, List.set_cons_zero]
                    refine wpAnyH_takeD (i := 1) (v := ?_) 128 rfl (by kernel_rfl) (by kernel_rfl) (by kernel_rfl) (fun _ _ _ h => h) (Or.inl ⟨by rfl, ?_⟩) (by assumption) rfl ?_
                    rotate_left
                    · intro w' hSw
                      have hx := HX5.out.below hSw; have l0 := hx.loan.cell 0 _ rfl; have l1 := hx.loan.cell 1 _ rfl; have hu := HU5.out.below h11 hSw; have e0 := hu.cell _ _ HOO.out.1; have e1 := hu.cell _ _ HOO.out.2.1; have e2 := hu.cell _ _ HQQ.out.2.2.1; have e3 := hu.cell _ _ HQQ.out.2.2.2; have ht := HT5.out.below h9 hSw; have t0 := ht.cell 0 _ rfl; have t1 := ht.cell 1 _ rfl
                      go_simp <;> with_reducible rfl
                    simp only [List.setIfInBounds_toArray, List.set_cons_succ, List.set_cons_zero]
                    refine wpAnyH_takeD (i := 2) (v := ?_) 129 rfl (by kernel_rfl) (by kernel_rfl) (by kernel_rfl) (fun _ _ _ h => h) (Or.inl ⟨by rfl, ?_⟩) (by assumption) rfl ?_
                    rotate_left
                    · intro w' hSw
                      have hx := HX5.out.below hSw; have l0 := hx.loan.cell 0 _ rfl; have l1 := hx.loan.cell 1 _ rfl; have hu := HU5.out.below h11 hSw; have e0 := hu.cell _ _ HOO.out.1; have e1 := hu.cell _ _ HOO.out.2.1; have e2 := hu.cell _ _ HQQ.out.2.2.1; have e3 := hu.cell _ _ HQQ.out.2.2.2; have ht := HT5.out.below h9 hSw; have t0 := ht.cell 0 _ rfl; have t1 := ht.cell 1 _ rfl
                      go_simp <;> with_reducible rfl
                    simp only [List.setIfInBounds_toArray, List.set_cons_succ, List.set_cons_zero]
                    refine wpAnyH_takeD (i := 3) 130 rfl (by kernel_rfl) (by kernel_rfl) (by kernel_rfl) (fun _ _ _ h => h) (Or.inr ⟨by kernel_rfl, rfl⟩) (by assumption) rfl ?_
                    simp only [List.setIfInBounds_toArray, List.set_cons_succ, List.set_cons_zero]
                    refine wpAnyH_takeD (i := 4) 131 rfl (by kernel_rfl) (by kernel_rfl) (by kernel_rfl) (fun _ _ _ h => h) (Or.inr ⟨by kernel_rfl, rfl⟩) (by assumption) rfl ?_
                    simp only [List.setIfInBounds_toArray, List.set_cons_succ, List.set_cons_zero]
                    refine wpAnyH_takeD (i := 5) (v := ?_) 132 rfl (by kernel_rfl) (by kernel_rfl) (by kernel_rfl) (fun _ _ _ h => h) (Or.inl ⟨by rfl, ?_⟩) (by assumption) rfl ?_
                    rotate_left
                    · intro w' hSw
                      have hx := HX5.out.below hSw; have l0 := hx.loan.cell 0 _ rfl; have l1 := hx.loan.cell 1 _ rfl; have hu := HU5.out.below h11 hSw; have e0 := hu.cell _ _ HOO.out.1; have e1 := hu.cell _ _ HOO.out.2.1; have e2 := hu.cell _ _ HQQ.out.2.2.1; have e3 := hu.cell _ _ HQQ.out.2.2.2; have ht := HT5.out.below h9 hSw; have t0 := ht.cell 0 _ rfl; have t1 := ht.cell 1 _ rfl
                      go_simp <;> with_reducible rfl
                    simp only [List.setIfInBounds_toArray, List.set_cons_succ, List.set_cons_zero]
                    refine wpAnyH_takeD (i := 6) (v := ?_) 133 rfl (by kernel_rfl) (by kernel_rfl) (by kernel_rfl) (fun _ _ _ h => h) (Or.inl ⟨by rfl, ?_⟩) (by assumption) rfl ?_
                    rotate_left
                    · intro w' hSw
                      have hx := HX5.out.below hSw; have l0 := hx.loan.cell 0 _ rfl; have l1 := hx.loan.cell 1 _ rfl; have hu := HU5.out.below h11 hSw; have e0 := hu.cell _ _ HOO.out.1; have e1 := hu.cell _ _ HOO.out.2.1; have e2 := hu.cell _ _ HQQ.out.2.2.1; have e3 := hu.cell _ _ HQQ.out.2.2.2; have ht := HT5.out.below h9 hSw; have t0 := ht.cell 0 _ rfl; have t1 := ht.cell 1 _ rfl
                      go_simp <;> with_reducible rfl
                    simp only [List.setIfInBounds_toArray, List.set_cons_succ, List.set_cons_zero]
                    refine wpAnyH_takeD (i := 7) 134 rfl (by kernel_rfl) (by kernel_rfl) (by kernel_rfl) (fun _ _ _ h => h) (Or.inr ⟨by kernel_rfl, rfl⟩) (by assumption) rfl ?_
                    simp only [List.setIfInBounds_toArray, List.set_cons_succ, List.set_cons_zero]
                    refine wpAnyH_takeD (i := 8) 135 rfl (by kernel_rfl) (by kernel_rfl) (by kernel_rfl) (fun _ _ _ h => h) (Or.inr ⟨by kernel_rfl, rfl⟩) (by assumption) rfl ?_
                    simp only [List.setIfInBounds_toArray, List.set_cons_succ, List.set_cons_zero]
                    refine wpAnyH_takeD (i := 9) 136 rfl (by kernel_rfl) (by kernel_rfl) (by kernel_rfl) (fun _ _ _ h => h) (Or.inr ⟨by kernel_rfl, rfl⟩) (by assumption) rfl ?_
                    simp only [List.setIfInBounds_toArray, List.set_cons_succ, List.set_cons_zero]
                    refine wpAnyH_takeD (i := 10) 137 rfl (by kernel_rfl) (by kernel_rfl) (by kernel_rfl) (fun _ _ _ h => h) (Or.inr ⟨by kernel_rfl, rfl⟩) (by assumption) rfl ?_
                    simp only [List.setIfInBounds_toArray, List.set_cons_succ, List.set_cons_zero]
                    refine wpAnyH_takeD (i := 11) 138 rfl (by kernel_rfl) (by kernel_rfl) (by kernel_rfl) (fun _ _ _ h => h) (Or.inr ⟨by kernel_rfl, rfl⟩) (by assumption) rfl ?_
                    simp only [List.setIfInBounds_toArray, List.set_cons_succ, List.set_cons_zero]
                    refine wpAnyH_takeD (i := 12) 139 rfl (by kernel_rfl) (by kernel_rfl) (by kernel_rfl) (fun _ _ _ h => h) (Or.inr ⟨by kernel_rfl, rfl⟩) (by assumption) rfl ?_
                    simp only [List.setIfInBounds_toArray, List.set_cons_succ, List.set_cons_zero]
                    refine wpAnyH_takeD (i := 13) 140 rfl (by kernel_rfl) (by kernel_rfl) (by kernel_rfl) (fun _ _ _ h => h) (Or.inr ⟨by kernel_rfl, rfl⟩) (by assumption) rfl ?_
                    simp only [List.setIfInBounds_toArray, List.set_cons_succ, List.set_cons_zero]
                    refine wpAnyH_takeD (i := 14) (v := ?_) 141 rfl (by kernel_rfl) (by kernel_rfl) (by kernel_rfl) (fun _ _ _ h => h) (Or.inl ⟨by rfl, ?_⟩) (by assumption) rfl ?_
                    rotate_left
                    · intro w' hSw
                      have hx := HX5.out.below hSw; have l0 := hx.loan.cell 0 _ rfl; have l1 := hx.loan.cell 1 _ rfl; have hu := HU5.out.below h11 hSw; have e0 := hu.cell _ _ HOO.out.1; have e1 := hu.cell _ _ HOO.out.2.1; have e2 := hu.cell _ _ HQQ.out.2.2.1; have e3 := hu.cell _ _ HQQ.out.2.2.2; have ht := HT5.out.below h9 hSw; have t0 := ht.cell 0 _ rfl; have t1 := ht.cell 1 _ rfl
                      go_simp <;> with_reducible rfl
                    simp only [List.setIfInBounds_toArray, List.set_cons_succ, List.set_cons_zero]
                    refine wpAnyH_takeD (i := 15) (v := ?_) 142 rfl (by kernel_rfl) (by kernel_rfl) (by kernel_rfl) (fun _ _ _ h => h) (Or.inl ⟨by rfl, ?_⟩) (by assumption) rfl ?_
                    rotate_left
                    · intro w' hSw
                      have hx := HX5.out.below hSw; have l0 := hx.loan.cell 0 _ rfl; have l1 := hx.loan.cell 1 _ rfl; have hu := HU5.out.below h11 hSw; have e0 := hu.cell _ _ HOO.out.1; have e1 := hu.cell _ _ HOO.out.2.1; have e2 := hu.cell _ _ HQQ.out.2.2.1; have e3 := hu.cell _ _ HQQ.out.2.2.2; have ht := HT5.out.below h9 hSw; have t0 := ht.cell 0 _ rfl; have t1 := ht.cell 1 _ rfl
                      go_simp <;> with_reducible rfl
                    simp only [List.setIfInBounds_toArray, List.set_cons_succ, List.set_cons_zero]
                    refine wpAnyH_takeD (i := 16) (v := ?_) 143 rfl (by kernel_rfl) (by kernel_rfl) (by kernel_rfl) (fun _ _ _ h => h) (Or.inl ⟨by rfl, ?_⟩) (by assumption) rfl ?_
                    rotate_left
                    · intro w' hSw
                      have hx := HX5.out.below hSw; have l0 := hx.loan.cell 0 _ rfl; have l1 := hx.loan.cell 1 _ rfl; have hu := HU5.out.below h11 hSw; have e0 := hu.cell _ _ HOO.out.1; have e1 := hu.cell _ _ HOO.out.2.1; have e2 := hu.cell _ _ HQQ.out.2.2.1; have e3 := hu.cell _ _ HQQ.out.2.2.2; have ht := HT5.out.below h9 hSw; have t0 := ht.cell 0 _ rfl; have t1 := ht.cell 1 _ rfl
                      go_simp <;> with_reducible rfl
                    simp only [List.setIfInBounds_toArray, List.set_cons_succ, List.set_cons_zero]
                    refine wpAnyH_takeD (i := 17) (v := ?_) 144 rfl (by kernel_rfl) (by kernel_rfl) (by kernel_rfl) (fun _ _ _ h => h) (Or.inl ⟨by rfl, ?_⟩) (by assumption) rfl ?_
                    rotate_left
                    · intro w' hSw
                      have hx := HX5.out.below hSw; have l0 := hx.loan.cell 0 _ rfl; have l1 := hx.loan.cell 1 _ rfl; have hu := HU5.out.below h11 hSw; have e0 := hu.cell _ _ HOO.out.1; have e1 := hu.cell _ _ HOO.out.2.1; have e2 := hu.cell _ _ HQQ.out.2.2.1; have e3 := hu.cell _ _ HQQ.out.2.2.2; have ht := HT5.out.below h9 hSw; have t0 := ht.cell 0 _ rfl; have t1 := ht.cell 1 _ rfl
                      go_simp <;> with_reducible rfl
                    simp only [List.setIfInBounds_toArray, List.set_cons_succ, List.set_cons_zero]
                    refine wpAnyH_takeD (i := 18) (v := ?_) 145 rfl (by kernel_rfl) (by kernel_rfl) (by kernel_rfl) (fun _ _ _ h => h) (Or.inl ⟨by rfl, ?_⟩) (by assumption) rfl ?_
                    rotate_left
                    · intro w' hSw
                      have hx := HX5.out.below hSw; have l0 := hx.loan.cell 0 _ rfl; have l1 := hx.loan.cell 1 _ rfl; have hu := HU5.out.below h11 hSw; have e0 := hu.cell _ _ HOO.out.1; have e1 := hu.cell _ _ HOO.out.2.1; have e2 := hu.cell _ _ HQQ.out.2.2.1; have e3 := hu.cell _ _ HQQ.out.2.2.2; have ht := HT5.out.below h9 hSw; have t0 := ht.cell 0 _ rfl; have t1 := ht.cell 1 _ rfl
                      go_simp <;> with_reducible rfl
                    simp only [List.setIfInBounds_toArray, List.set_cons_succ, List.set_cons_zero]
                    refine wpAnyH_takeD (i := 19) (v := ?_) 146 rfl (by kernel_rfl) (by kernel_rfl) (by kernel_rfl) (fun _ _ _ h => h) (Or.inl ⟨by rfl, ?_⟩) (by assumption) rfl ?_
                    rotate_left
                    · intro w' hSw
                      have hx := HX5.out.below hSw; have l0 := hx.loan.cell 0 _ rfl; have l1 := hx.loan.cell 1 _ rfl; have hu := HU5.out.below h11 hSw; have e0 := hu.cell _ _ HOO.out.1; have e1 := hu.cell _ _ HOO.out.2.1; have e2 := hu.cell _ _ HQQ.out.2.2.1; have e3 := hu.cell _ _ HQQ.out.2.2.2; have ht := HT5.out.below h9 hSw; have t0 := ht.cell 0 _ rfl; have t1 := ht.cell 1 _ rfl
                      go_simp <;> with_reducible rfl
                    simp only [List.setIfInBounds_toArray, List.set_cons_succ, List.set_cons_zero]
                    refine wpAnyH_takeD (i := 20) (v := ?_) 147 rfl (by kernel_rfl) (by kernel_rfl) (by kernel_rfl) (fun _ _ _ h => h) (Or.inl ⟨by rfl, ?_⟩) (by assumption) rfl ?_
                    rotate_left
                    · intro w' hSw
                      have hx := HX5.out.below hSw; have l0 := hx.loan.cell 0 _ rfl; have l1 := hx.loan.cell 1 _ rfl; have hu := HU5.out.below h11 hSw; have e0 := hu.cell _ _ HOO.out.1; have e1 := hu.cell _ _ HOO.out.2.1; have e2 := hu.cell _ _ HQQ.out.2.2.1; have e3 := hu.cell _ _ HQQ.out.2.2.2; have ht := HT5.out.below h9 hSw; have t0 := ht.cell 0 _ rfl; have t1 := ht.cell 1 _ rfl
                      go_simp <;> with_reducible rfl
                    simp only [List.setIfInBounds_toArray, List.set_cons_succ, List.set_cons_zero]
                    refine wpAnyH_takeD (i := 21) (v := ?_) 148 rfl (by kernel_rfl) (by kernel_rfl) (by kernel_rfl) (fun _ _ _ h => h) (Or.inl ⟨by rfl, ?_⟩) (by assumption) rfl ?_
                    rotate_left
                    · intro w' hSw
                      have hx := HX5.out.below hSw; have l0 := hx.loan.cell 0 _ rfl; have l1 := hx.loan.cell 1 _ rfl; have hu := HU5.out.below h11 hSw; have e0 := hu.cell _ _ HOO.out.1; have e1 := hu.cell _ _ HOO.out.2.1; have e2 := hu.cell _ _ HQQ.out.2.2.1; have e3 := hu.cell _ _ HQQ.out.2.2.2; have ht := HT5.out.below h9 hSw; have t0 := ht.cell 0 _ rfl; have t1 := ht.cell 1 _ rfl
                      go_simp <;> with_reducible rfl
                    simp only [List.setIfInBounds_toArray, List.set_cons_succ, List.set_cons_zero]
                    refine wpAnyH_takeD (i := 22) (v := ?_) 149 rfl (by kernel_rfl) (by kernel_rfl) (by kernel_rfl) (fun _ _ _ h => h) (Or.inl ⟨by rfl, ?_⟩) (by assumption) rfl ?_
                    rotate_left
                    · intro w' hSw
                      have hx := HX5.out.below hSw; have l0 := hx.loan.cell 0 _ rfl; have l1 := hx.loan.cell 1 _ rfl; have hu := HU5.out.below h11 hSw; have e0 := hu.cell _ _ HOO.out.1; have e1 := hu.cell _ _ HOO.out.2.1; have e2 := hu.cell _ _ HQQ.out.2.2.1; have e3 := hu.cell _ _ HQQ.out.2.2.2; have ht := HT5.out.below h9 hSw; have t0 := ht.cell 0 _ rfl; have t1 := ht.cell 1 _ rfl
                      go_simp <;> with_reducible rfl
                    simp only [List.setIfInBounds_toArray, List.set_cons_succ, List.set_cons_zero]
                    refine wpAnyH_takeD (i := 23) (v := ?_) 150 rfl (by kernel_rfl) (by kernel_rfl) (by kernel_rfl) (fun _ _ _ h => h) (Or.inl ⟨by rfl, ?_⟩) (by assumption) rfl ?_
                    rotate_left
                    · intro w' hSw
                      have hx := HX5.out.below hSw; have l0 := hx.loan.cell 0 _ rfl; have l1 := hx.loan.cell 1 _ rfl; have hu := HU5.out.below h11 hSw; have e0 := hu.cell _ _ HOO.out.1; have e1 := hu.cell _ _ HOO.out.2.1; have e2 := hu.cell _ _ HQQ.out.2.2.1; have e3 := hu.cell _ _ HQQ.out.2.2.2; have ht := HT5.out.below h9 hSw; have t0 := ht.cell 0 _ rfl; have t1 := ht.cell 1 _ rfl
                      go_simp <;> with_reducible rfl
                    simp only [List.setIfInBounds_toArray, List.set_cons_succ, List.set_cons_zero]
                    refine wpAnyH_done (by kernel_rfl) ?_ _
                    go_wp2
                    go_roundw
                    case rel => exact ⟨n + 1, by go_num, by omega, HX5.out.below hHeld, HV5.out.below HV5.out.lt hHeld, HU5.out.below HU5.out.lt hHeld, HB5.out.trans (hHeld.mono HB5.out.size)⟩
                    case measure => simp [intOf]; omega
            · have hn2 : ¬ (n : Int) < 2 := by omega
              go_wp2_with (go_at_call 5; refine (HLE.out _ (HCZ.out _ hB).2).mono ?_; rintro e w5 ⟨rfl, hb5⟩)
              go_ret
              exact ⟨rfl, below_then hB hb5⟩
end Go.Proofs.YthpjeclhignciaaDoor
