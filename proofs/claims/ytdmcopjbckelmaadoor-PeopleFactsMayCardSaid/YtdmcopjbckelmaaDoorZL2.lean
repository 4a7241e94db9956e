/- Walks of the laws' own functions: meets. Conditions: those stated. -/
import Derived.Test.YtdmcopjbckelmaaDoorZL1
import Derived.Test.YtdmcopjbckelmaaDoorZRB
namespace Go.Proofs.YtdmcopjbckelmaaDoor
open Go Go.RowKit Go.Shelf
attribute [local go_sem] Oper.semAt_some

theorem meetsB_is {ps : List ByteArray} {bs ds : List Int} {f : Fa} (q : Prop) [Decidable q] (h : Sat (yrT bs ds) (boundsF ps f) ↔ q) : meetsB ps bs ds f = decide q := by
  unfold meetsB
  rw [Bool.eq_iff_iff, satB_iff, h, decide_eq_true_eq]
section
variable {ps : List ByteArray} {bs ds : List Int} {k : Int} {a b : ByteArray} {t : Int} (hA : posF ps a < 24)
include hA
theorem meets4 (h : k = 4) : meetsB ps bs ds ⟨k, a, b, t⟩ = decide (bs.getD (posF ps a) 0 = t) := by
  subst h
  have a0 := yrT_b bs ds hA
  have a1 := yrT_d bs ds hA
  have a2 := yrT_o bs ds
  refine meetsB_is _ ?_
  simp only [boundsF, Sat, List.mem_cons, List.not_mem_nil, or_false, forall_eq_or_imp, forall_eq, Int.reduceEq, if_true, if_false]
  omega
theorem meets5 (h : k = 5) : meetsB ps bs ds ⟨k, a, b, t⟩ = decide (bs.getD (posF ps a) 0 ≤ t - 10 ∧ t ≤ ds.getD (posF ps a) 0) := by
  subst h
  have a0 := yrT_b bs ds hA
  have a1 := yrT_d bs ds hA
  have a2 := yrT_o bs ds
  refine meetsB_is _ ?_
  simp only [boundsF, Sat, List.mem_cons, List.not_mem_nil, or_false, forall_eq_or_imp, forall_eq, Int.reduceEq, if_true, if_false]
  omega
theorem meets6 (h : k = 6) : meetsB ps bs ds ⟨k, a, b, t⟩ = decide (bs.getD (posF ps a) 0 ≤ t ∧ t ≤ ds.getD (posF ps a) 0) := by
  subst h
  have a0 := yrT_b bs ds hA
  have a1 := yrT_d bs ds hA
  have a2 := yrT_o bs ds
  refine meetsB_is _ ?_
  simp only [boundsF, Sat, List.mem_cons, List.not_mem_nil, or_false, forall_eq_or_imp, forall_eq, Int.reduceEq, if_true, if_false]
  omega
theorem meets7 (h : k = 7) : meetsB ps bs ds ⟨k, a, b, t⟩ = decide (ds.getD (posF ps a) 0 ≤ t) := by
  subst h
  have a0 := yrT_b bs ds hA
  have a1 := yrT_d bs ds hA
  have a2 := yrT_o bs ds
  refine meetsB_is _ ?_
  simp only [boundsF, Sat, List.mem_cons, List.not_mem_nil, or_false, forall_eq, Int.reduceEq, if_false]
  omega
theorem meets1 (hB : posF ps b < 24) (h : k = 1) : meetsB ps bs ds ⟨k, a, b, t⟩ = decide (12 ≤ bs.getD (posF ps a) 0 - bs.getD (posF ps b) 0 ∧ bs.getD (posF ps a) 0 - bs.getD (posF ps b) 0 ≤ 80 ∧ bs.getD (posF ps a) 0 ≤ ds.getD (posF ps b) 0 + 1) := by
  subst h
  have a0 := yrT_b bs ds hA
  have a1 := yrT_d bs ds hA
  have a2 := yrT_o bs ds
  have b0 := yrT_b bs ds hB
  have b1 := yrT_d bs ds hB
  refine meetsB_is _ ?_
  simp only [boundsF, Sat, List.mem_cons, List.not_mem_nil, or_false, forall_eq_or_imp, forall_eq, Int.reduceEq, if_true, if_false]
  omega
theorem meets2 (hB : posF ps b < 24) (h : k = 2) : meetsB ps bs ds ⟨k, a, b, t⟩ = decide (-40 ≤ bs.getD (posF ps a) 0 - bs.getD (posF ps b) 0 ∧ bs.getD (posF ps a) 0 - bs.getD (posF ps b) 0 ≤ 40) := by
  subst h
  have a0 := yrT_b bs ds hA
  have a1 := yrT_d bs ds hA
  have a2 := yrT_o bs ds
  have b0 := yrT_b bs ds hB
  have b1 := yrT_d bs ds hB
  refine meetsB_is _ ?_
  simp only [boundsF, Sat, List.mem_cons, List.not_mem_nil, or_false, forall_eq_or_imp, forall_eq, Int.reduceEq, if_true, if_false]
  omega
theorem meets3 (hB : posF ps b < 24) (h : k = 3) : meetsB ps bs ds ⟨k, a, b, t⟩ = decide (bs.getD (posF ps a) 0 - bs.getD (posF ps b) 0 ≤ 0) := by
  subst h
  have a0 := yrT_b bs ds hA
  have a1 := yrT_d bs ds hA
  have a2 := yrT_o bs ds
  have b0 := yrT_b bs ds hB
  have b1 := yrT_d bs ds hB
  refine meetsB_is _ ?_
  simp only [boundsF, Sat, List.mem_cons, List.not_mem_nil, or_false, forall_eq, Int.reduceEq, if_true, if_false]
  omega
end
/-- A cell of a slice of ints. -/
theorem ints_cell {w : World} {v : Value} {l : List Int} (h : Sl w 1 v (l.map (Value.int .i64))) : ∃ A c, v = .slice A l.length c ∧ l.length ≤ c ∧ (c : Int) ≤ 9223372036854775807 ∧ ∀ i, i < l.length → ∃ ad, A = some ad ∧ w.cell? (ad.add i) = some (.int .i64 (l.getD i 0)) := by
  obtain ⟨A, c, rfl, h1, h2, h3⟩ := h.open1
  rw [List.length_map] at *
  refine ⟨A, c, rfl, h1, h2, fun i hi => ?_⟩
  refine h3 i _ ?_
  rw [List.getElem?_map, List.getD_eq_getElem?_getD, List.getElem?_eq_getElem hi]
  rfl
set_option maxRecDepth 100000 in
set_option maxHeartbeats 8000000 in
theorem meets_pair (v vb vd : Value) (ps : List ByteArray) (bs ds : List Int) (k : Int) (a b : ByteArray) (t : Int) (w : World) (hv : Sl w 1 v (namesV ps)) (hb : Sl w 1 vb (bs.map (Value.int .i64))) (hd : Sl w 1 vd (ds.map (Value.int .i64))) (lb : bs.length = ps.length) (ld : ds.length = ps.length) (hp : ps.length ≤ 24) (hf : aboutB ps ⟨k, a, b, t⟩ = true) (hr : ∀ i, i < ps.length → yOk bs ds i = true) (hkk : k = 1 ∨ k = 2 ∨ k = 3) :
    Calls Tryd.prog 30 #[v, .agg #[vb, vd], faA ⟨k, a, b, t⟩] w fun e w' => e = .returned (.bool (meetsB ps bs ds ⟨k, a, b, t⟩)) ∧ Below w.heap.size w w' := by
  obtain ⟨h1, h2, h3, h4⟩ := aboutB_iff.1 hf
  simp only at h1 h2 h3 h4
  have hA := posF_lt h2
  obtain ⟨Ab, cb, rfl, hb1, hb2, hbc⟩ := ints_cell hb
  obtain ⟨Ad, cd, rfl, hd1, hd2, hdc⟩ := ints_cell hd
  have hAb : posF ps a < bs.length := by omega
  have hAd : posF ps a < ds.length := by omega
  have yA := hr _ hA
  unfold yOk at yA
  rw [decide_eq_true_eq] at yA
  have hb0 := (below_alloc' w (.cells #[.slice Ab bs.length cb, .slice Ad ds.length cd] 45)).alloc (by simp) (.cells #[.int .i64 k, .string a, .string b, .int .i64 t] 40)
  have y0 := (Cel.new w 45 #[.slice Ab bs.length cb, .slice Ad ds.length cd]).alloc (.cells #[.int .i64 k, .string a, .string b, .int .i64 t] 40)
  have y1 := Cel.new (w.alloc (.cells #[.slice Ab bs.length cb, .slice Ad ds.length cd] 45)) 40 #[.int .i64 k, .string a, .string b, .int .i64 t]
  rw [World.size_alloc] at y1
  obtain ⟨W, hW⟩ : ∃ W, (w.alloc (.cells #[.slice Ab bs.length cb, .slice Ad ds.length cd] 45)).alloc (.cells #[.int .i64 k, .string a, .string b, .int .i64 t] 40) = W := ⟨_, rfl⟩
  rw [hW] at hb0 y0 y1
  have HAt := Lib.hid (fun s n => (rAt_any v ps s (W.drewN n) (hv.below (below_drewN hb0 n))).mono fun e w' (h : _ ∧ _) => (⟨h.1, h.2.symm⟩ : _ ∧ W.drewN n = w'))
  have HB := Lib.hid (below_drewN hb0)
  have HKa := Lib.hid (fun n => by have := HAt.out a n; rw [atF_mem h2] at this; exact this)
  have HMb := Lib.hid (fun (q : b ∈ ps) n => by have := HAt.out b n; rw [atF_mem q] at this; exact this)
  obtain ⟨adb, rfl, xb⟩ := hbc _ hAb
  obtain ⟨add, rfl, xd⟩ := hdc _ hAd
  have xb' := below_cell hb0 xb
  have xd' := below_cell hb0 xd
  have z0 := y0.cell 0 _ rfl
  have z1 := y0.cell 1 _ rfl
  have f0 := y1.cell 0 _ rfl
  have f1 := y1.cell 1 _ rfl
  have f2 := y1.cell 2 _ rfl
  have f3 := y1.cell 3 _ rfl
  have hA24 : posF ps a < 24 := by omega
  have HM1 := Lib.hid (fun hB => meets1 (ps := ps) (bs := bs) (ds := ds) (k := k) (a := a) (b := b) (t := t) hA24 hB)
  have HM2 := Lib.hid (fun hB => meets2 (ps := ps) (bs := bs) (ds := ds) (k := k) (a := a) (b := b) (t := t) hA24 hB)
  have HM3 := Lib.hid (fun hB => meets3 (ps := ps) (bs := bs) (ds := ds) (k := k) (a := a) (b := b) (t := t) hA24 hB)
  have HM4 := Lib.hid (meets4 (ps := ps) (bs := bs) (ds := ds) (k := k) (a := a) (b := b) (t := t) hA24)
  have HM5 := Lib.hid (meets5 (ps := ps) (bs := bs) (ds := ds) (k := k) (a := a) (b := b) (t := t) hA24)
  have HM6 := Lib.hid (meets6 (ps := ps) (bs := bs) (ds := ds) (k := k) (a := a) (b := b) (t := t) hA24)
  have HM7 := Lib.hid (meets7 (ps := ps) (bs := bs) (ds := ds) (k := k) (a := a) (b := b) (t := t) hA24)
  have HW := Lib.hid hb0
  have HR := Lib.hid hr
  clear hb0 y0 y1 hv hb hd hf h2 hb1 hb2 hd1 hd2 xb xd hr
  have HLb := Lib.hid lb
  have HLd := Lib.hid ld
  clear lb ld
  have hbc' := Lib.hid hbc
  have hdc' := Lib.hid hdc
  clear hbc hdc
  obtain ⟨X, hX⟩ : ∃ X, bs.getD (posF ps a) 0 = X := ⟨_, rfl⟩
  obtain ⟨Z, hZ⟩ : ∃ Z, ds.getD (posF ps a) 0 = Z := ⟨_, rfl⟩
  rw [hX] at xb' HM4 HM5 HM6 yA
  rw [hZ] at xd' HM5 HM6 HM7 yA
  have H3 := Lib.hid h3
  have H4 := Lib.hid h4
  have HXe := Lib.hid hX
  have HZe := Lib.hid hZ
  clear h3 h4 hX hZ
  show Calls Tryd.prog 30 #[v, .agg #[.slice (some adb) bs.length cb, .slice (some add) ds.length cd], .agg #[.int .i64 k, .string a, .string b, .int .i64 t]] w _
  go_enter Tryd.func30, Tryd.ntmps30
  rcases hkk with rfl | rfl | rfl
  · have hb := (H3.out (by decide)).2.1
    have hB := posF_lt hb
    have hB24 : posF ps b < 24 := by omega
    have HKb := HMb.out hb
    have HKb := Lib.hid HKb
    have HE := Lib.hid (HM1.out hB24 rfl)
    have yB := HR.out _ hB
    unfold yOk at yB
    rw [decide_eq_true_eq] at yB
    have hBb : posF ps b < bs.length := by have := HLb.out; omega
    have hBd : posF ps b < ds.length := by have := HLd.out; omega
    obtain ⟨_, e1, xb2⟩ := hbc'.out _ hBb
    cases e1
    obtain ⟨_, e2, xd2⟩ := hdc'.out _ hBd
    cases e2
    replace xb2 := below_cell HW.out xb2
    replace xd2 := below_cell HW.out xd2
    obtain ⟨X2, hX2⟩ : ∃ X2, bs.getD (posF ps b) 0 = X2 := ⟨_, rfl⟩
    obtain ⟨Z2, hZ2⟩ : ∃ Z2, ds.getD (posF ps b) 0 = Z2 := ⟨_, rfl⟩
    simp only [hX2, hZ2, HXe.out] at xb2 xd2 yB HE
    generalize posF ps b = B at *
    have n1 : IntKind.i64.wrap (X - X2) = X - X2 := IntWalk.i64_in _ (by omega)
    have n2 : IntKind.i64.wrap (Z2 + 1) = Z2 + 1 := IntWalk.i64_in _ (by omega)
    clear hX2 hZ2 hb HM1 HM2 HM3 HM4 HM5 HM6 HM7 HMb HAt H3 H4 hbc' hdc' HLb HLd HW HR HXe HZe
    by_cases q4 : 12 ≤ X - X2
    · have c4 : decide (12 ≤ X - X2) = true := decide_eq_true q4
      by_cases q6 : X - X2 ≤ 80
      · have c6 : decide (X - X2 ≤ 80) = true := decide_eq_true q6
        by_cases q8 : X ≤ Z2 + 1
        · have c8 : decide (X ≤ Z2 + 1) = true := decide_eq_true q8
          have hr := Lib.hid (HE.out.trans (decide_eq_true (by omega)))
          clear HE yA yB
          go_wp2
          go_quiet ((first | (go_at_call_of 42 (Value.string a); exact quiet_left (HKa.out _)) | (go_at_call_of 42 (Value.string b); exact quiet_left (HKb.out _))))
          go_wp2
          go_quiet (fail)
          go_wp2
          go_quiet (fail)
          go_wp2
          go_ret
          first | exact ⟨by rw [hr.out]; rfl, HB.out _⟩ | exact ⟨by rw [hr.out]; rfl, below_drewN (HB.out _) _⟩
        · have c8 : decide (X ≤ Z2 + 1) = false := decide_eq_false q8
          have hr := Lib.hid (HE.out.trans (decide_eq_false (by omega)))
          clear HE yA yB
          go_wp2
          go_quiet ((first | (go_at_call_of 42 (Value.string a); exact quiet_left (HKa.out _)) | (go_at_call_of 42 (Value.string b); exact quiet_left (HKb.out _))))
          go_wp2
          go_quiet (fail)
          go_wp2
          go_quiet (fail)
          go_wp2
          go_ret
          first | exact ⟨by rw [hr.out]; rfl, HB.out _⟩ | exact ⟨by rw [hr.out]; rfl, below_drewN (HB.out _) _⟩
      · have c6 : decide (X - X2 ≤ 80) = false := decide_eq_false q6
        have hr := Lib.hid (HE.out.trans (decide_eq_false (by omega)))
        clear HE yA yB
        go_wp2
        go_quiet ((first | (go_at_call_of 42 (Value.string a); exact quiet_left (HKa.out _)) | (go_at_call_of 42 (Value.string b); exact quiet_left (HKb.out _))))
        go_wp2
        go_quiet (fail)
        go_wp2
        go_quiet (fail)
        go_wp2
        go_ret
        first | exact ⟨by rw [hr.out]; rfl, HB.out _⟩ | exact ⟨by rw [hr.out]; rfl, below_drewN (HB.out _) _⟩
    · have c4 : decide (12 ≤ X - X2) = false := decide_eq_false q4
      have hr := Lib.hid (HE.out.trans (decide_eq_false (by omega)))
      clear HE yA yB
      go_wp2
      go_quiet ((first | (go_at_call_of 42 (Value.string a); exact quiet_left (HKa.out _)) | (go_at_call_of 42 (Value.string b); exact quiet_left (HKb.out _))))
      go_wp2
      go_quiet (fail)
      go_wp2
      go_quiet (fail)
      go_wp2
      go_ret
      first | exact ⟨by rw [hr.out]; rfl, HB.out _⟩ | exact ⟨by rw [hr.out]; rfl, below_drewN (HB.out _) _⟩
  · have hb := (H3.out (by decide)).2.1
    have hB := posF_lt hb
    have hB24 : posF ps b < 24 := by omega
    have HKb := HMb.out hb
    have HKb := Lib.hid HKb
    have HE := Lib.hid (HM2.out hB24 rfl)
    have yB := HR.out _ hB
    unfold yOk at yB
    rw [decide_eq_true_eq] at yB
    have hBb : posF ps b < bs.length := by have := HLb.out; omega
    have hBd : posF ps b < ds.length := by have := HLd.out; omega
    obtain ⟨_, e1, xb2⟩ := hbc'.out _ hBb
    cases e1
    obtain ⟨_, e2, xd2⟩ := hdc'.out _ hBd
    cases e2
    replace xb2 := below_cell HW.out xb2
    replace xd2 := below_cell HW.out xd2
    obtain ⟨X2, hX2⟩ : ∃ X2, bs.getD (posF ps b) 0 = X2 := ⟨_, rfl⟩
    obtain ⟨Z2, hZ2⟩ : ∃ Z2, ds.getD (posF ps b) 0 = Z2 := ⟨_, rfl⟩
    simp only [hX2, hZ2, HXe.out] at xb2 xd2 yB HE
    generalize posF ps b = B at *
    have n1 : IntKind.i64.wrap (X - X2) = X - X2 := IntWalk.i64_in _ (by omega)
    have n2 : IntKind.i64.wrap (Z2 + 1) = Z2 + 1 := IntWalk.i64_in _ (by omega)
    clear hX2 hZ2 hb HM1 HM2 HM3 HM4 HM5 HM6 HM7 HMb HAt H3 H4 hbc' hdc' HLb HLd HW HR HXe HZe
    by_cases q4 : -40 ≤ X - X2
    · have c4 : decide (-40 ≤ X - X2) = true := decide_eq_true q4
      by_cases q6 : X - X2 ≤ 40
      · have c6 : decide (X - X2 ≤ 40) = true := decide_eq_true q6
        have hr := Lib.hid (HE.out.trans (decide_eq_true (by omega)))
        clear HE yA yB
        go_wp2
        go_quiet ((first | (go_at_call_of 42 (Value.string a); exact quiet_left (HKa.out _)) | (go_at_call_of 42 (Value.string b); exact quiet_left (HKb.out _))))
        go_wp2
        go_quiet (fail)
        go_wp2
        go_ret
        first | exact ⟨by rw [hr.out]; rfl, HB.out _⟩ | exact ⟨by rw [hr.out]; rfl, below_drewN (HB.out _) _⟩
      · have c6 : decide (X - X2 ≤ 40) = false := decide_eq_false q6
        have hr := Lib.hid (HE.out.trans (decide_eq_false (by omega)))
        clear HE yA yB
        go_wp2
        go_quiet ((first | (go_at_call_of 42 (Value.string a); exact quiet_left (HKa.out _)) | (go_at_call_of 42 (Value.string b); exact quiet_left (HKb.out _))))
        go_wp2
        go_quiet (fail)
        go_wp2
        go_ret
        first | exact ⟨by rw [hr.out]; rfl, HB.out _⟩ | exact ⟨by rw [hr.out]; rfl, below_drewN (HB.out _) _⟩
    · have c4 : decide (-40 ≤ X - X2) = false := decide_eq_false q4
      have hr := Lib.hid (HE.out.trans (decide_eq_false (by omega)))
      clear HE yA yB
      go_wp2
      go_quiet ((first | (go_at_call_of 42 (Value.string a); exact quiet_left (HKa.out _)) | (go_at_call_of 42 (Value.string b); exact quiet_left (HKb.out _))))
      go_wp2
      go_quiet (fail)
      go_wp2
      go_ret
      first | exact ⟨by rw [hr.out]; rfl, HB.out _⟩ | exact ⟨by rw [hr.out]; rfl, below_drewN (HB.out _) _⟩
  · have hb := (H3.out (by decide)).2.1
    have hB := posF_lt hb
    have hB24 : posF ps b < 24 := by omega
    have HKb := HMb.out hb
    have HKb := Lib.hid HKb
    have HE := Lib.hid (HM3.out hB24 rfl)
    have yB := HR.out _ hB
    unfold yOk at yB
    rw [decide_eq_true_eq] at yB
    have hBb : posF ps b < bs.length := by have := HLb.out; omega
    have hBd : posF ps b < ds.length := by have := HLd.out; omega
    obtain ⟨_, e1, xb2⟩ := hbc'.out _ hBb
    cases e1
    obtain ⟨_, e2, xd2⟩ := hdc'.out _ hBd
    cases e2
    replace xb2 := below_cell HW.out xb2
    replace xd2 := below_cell HW.out xd2
    obtain ⟨X2, hX2⟩ : ∃ X2, bs.getD (posF ps b) 0 = X2 := ⟨_, rfl⟩
    obtain ⟨Z2, hZ2⟩ : ∃ Z2, ds.getD (posF ps b) 0 = Z2 := ⟨_, rfl⟩
    simp only [hX2, hZ2, HXe.out] at xb2 xd2 yB HE
    generalize posF ps b = B at *
    have n1 : IntKind.i64.wrap (X - X2) = X - X2 := IntWalk.i64_in _ (by omega)
    have n2 : IntKind.i64.wrap (Z2 + 1) = Z2 + 1 := IntWalk.i64_in _ (by omega)
    clear hX2 hZ2 hb HM1 HM2 HM3 HM4 HM5 HM6 HM7 HMb HAt H3 H4 hbc' hdc' HLb HLd HW HR HXe HZe
    by_cases q4 : X - X2 ≤ 0
    · have c4 : decide (X - X2 ≤ 0) = true := decide_eq_true q4
      have hr := Lib.hid (HE.out.trans (decide_eq_true (by omega)))
      clear HE yA yB
      go_wp2
      go_quiet ((first | (go_at_call_of 42 (Value.string a); exact quiet_left (HKa.out _)) | (go_at_call_of 42 (Value.string b); exact quiet_left (HKb.out _))))
      go_wp2
      go_quiet (fail)
      go_wp2
      go_ret
      first | exact ⟨by rw [hr.out]; rfl, HB.out _⟩ | exact ⟨by rw [hr.out]; rfl, below_drewN (HB.out _) _⟩
    · have c4 : decide (X - X2 ≤ 0) = false := decide_eq_false q4
      have hr := Lib.hid (HE.out.trans (decide_eq_false (by omega)))
      clear HE yA yB
      go_wp2
      go_quiet ((first | (go_at_call_of 42 (Value.string a); exact quiet_left (HKa.out _)) | (go_at_call_of 42 (Value.string b); exact quiet_left (HKb.out _))))
      go_wp2
      go_quiet (fail)
      go_wp2
      go_ret
      first | exact ⟨by rw [hr.out]; rfl, HB.out _⟩ | exact ⟨by rw [hr.out]; rfl, below_drewN (HB.out _) _⟩
set_option maxRecDepth 100000 in
set_option maxHeartbeats 8000000 in
theorem meets_one (v vb vd : Value) (ps : List ByteArray) (bs ds : List Int) (k : Int) (a b : ByteArray) (t : Int) (w : World) (hv : Sl w 1 v (namesV ps)) (hb : Sl w 1 vb (bs.map (Value.int .i64))) (hd : Sl w 1 vd (ds.map (Value.int .i64))) (lb : bs.length = ps.length) (ld : ds.length = ps.length) (hp : ps.length ≤ 24) (hf : aboutB ps ⟨k, a, b, t⟩ = true) (hr : ∀ i, i < ps.length → yOk bs ds i = true) (hkk : k = 4 ∨ k = 5 ∨ k = 6 ∨ k = 7) :
    Calls Tryd.prog 30 #[v, .agg #[vb, vd], faA ⟨k, a, b, t⟩] w fun e w' => e = .returned (.bool (meetsB ps bs ds ⟨k, a, b, t⟩)) ∧ Below w.heap.size w w' := by
  obtain ⟨h1, h2, h3, h4⟩ := aboutB_iff.1 hf
  simp only at h1 h2 h3 h4
  have hA := posF_lt h2
  obtain ⟨Ab, cb, rfl, hb1, hb2, hbc⟩ := ints_cell hb
  obtain ⟨Ad, cd, rfl, hd1, hd2, hdc⟩ := ints_cell hd
  have hAb : posF ps a < bs.length := by omega
  have hAd : posF ps a < ds.length := by omega
  have yA := hr _ hA
  unfold yOk at yA
  rw [decide_eq_true_eq] at yA
  have hb0 := (below_alloc' w (.cells #[.slice Ab bs.length cb, .slice Ad ds.length cd] 45)).alloc (by simp) (.cells #[.int .i64 k, .string a, .string b, .int .i64 t] 40)
  have y0 := (Cel.new w 45 #[.slice Ab bs.length cb, .slice Ad ds.length cd]).alloc (.cells #[.int .i64 k, .string a, .string b, .int .i64 t] 40)
  have y1 := Cel.new (w.alloc (.cells #[.slice Ab bs.length cb, .slice Ad ds.length cd] 45)) 40 #[.int .i64 k, .string a, .string b, .int .i64 t]
  rw [World.size_alloc] at y1
  obtain ⟨W, hW⟩ : ∃ W, (w.alloc (.cells #[.slice Ab bs.length cb, .slice Ad ds.length cd] 45)).alloc (.cells #[.int .i64 k, .string a, .string b, .int .i64 t] 40) = W := ⟨_, rfl⟩
  rw [hW] at hb0 y0 y1
  have HAt := Lib.hid (fun s n => (rAt_any v ps s (W.drewN n) (hv.below (below_drewN hb0 n))).mono fun e w' (h : _ ∧ _) => (⟨h.1, h.2.symm⟩ : _ ∧ W.drewN n = w'))
  have HB := Lib.hid (below_drewN hb0)
  have HKa := Lib.hid (fun n => by have := HAt.out a n; rw [atF_mem h2] at this; exact this)
  have HMb := Lib.hid (fun (q : b ∈ ps) n => by have := HAt.out b n; rw [atF_mem q] at this; exact this)
  obtain ⟨adb, rfl, xb⟩ := hbc _ hAb
  obtain ⟨add, rfl, xd⟩ := hdc _ hAd
  have xb' := below_cell hb0 xb
  have xd' := below_cell hb0 xd
  have z0 := y0.cell 0 _ rfl
  have z1 := y0.cell 1 _ rfl
  have f0 := y1.cell 0 _ rfl
  have f1 := y1.cell 1 _ rfl
  have f2 := y1.cell 2 _ rfl
  have f3 := y1.cell 3 _ rfl
  have hA24 : posF ps a < 24 := by omega
  have HM1 := Lib.hid (fun hB => meets1 (ps := ps) (bs := bs) (ds := ds) (k := k) (a := a) (b := b) (t := t) hA24 hB)
  have HM2 := Lib.hid (fun hB => meets2 (ps := ps) (bs := bs) (ds := ds) (k := k) (a := a) (b := b) (t := t) hA24 hB)
  have HM3 := Lib.hid (fun hB => meets3 (ps := ps) (bs := bs) (ds := ds) (k := k) (a := a) (b := b) (t := t) hA24 hB)
  have HM4 := Lib.hid (meets4 (ps := ps) (bs := bs) (ds := ds) (k := k) (a := a) (b := b) (t := t) hA24)
  have HM5 := Lib.hid (meets5 (ps := ps) (bs := bs) (ds := ds) (k := k) (a := a) (b := b) (t := t) hA24)
  have HM6 := Lib.hid (meets6 (ps := ps) (bs := bs) (ds := ds) (k := k) (a := a) (b := b) (t := t) hA24)
  have HM7 := Lib.hid (meets7 (ps := ps) (bs := bs) (ds := ds) (k := k) (a := a) (b := b) (t := t) hA24)
  have HW := Lib.hid hb0
  have HR := Lib.hid hr
  clear hb0 y0 y1 hv hb hd hf h2 hb1 hb2 hd1 hd2 xb xd hr
  have HLb := Lib.hid lb
  have HLd := Lib.hid ld
  clear lb ld
  have hbc' := Lib.hid hbc
  have hdc' := Lib.hid hdc
  clear hbc hdc
  obtain ⟨X, hX⟩ : ∃ X, bs.getD (posF ps a) 0 = X := ⟨_, rfl⟩
  obtain ⟨Z, hZ⟩ : ∃ Z, ds.getD (posF ps a) 0 = Z := ⟨_, rfl⟩
  rw [hX] at xb' HM4 HM5 HM6 yA
  rw [hZ] at xd' HM5 HM6 HM7 yA
  have H3 := Lib.hid h3
  have H4 := Lib.hid h4
  have HXe := Lib.hid hX
  have HZe := Lib.hid hZ
  clear h3 h4 hX hZ
  show Calls Tryd.prog 30 #[v, .agg #[.slice (some adb) bs.length cb, .slice (some add) ds.length cd], .agg #[.int .i64 k, .string a, .string b, .int .i64 t]] w _
  go_enter Tryd.func30, Tryd.ntmps30
  rcases hkk with rfl | rfl | rfl | rfl
  · have HKb := Lib.hid (fun n => HAt.out b n)
    have HE := Lib.hid (HM4.out rfl)
    have tt := (H4.out (by decide)).2
    clear HM1 HM2 HM3 HM4 HM5 HM6 HM7 HMb HAt H3 H4 hbc' hdc' HLb HLd
    by_cases q4 : X = t
    · have b1 : (X == t) = true := beq_iff_eq.2 q4
      have c4 : decide (X = t) = true := decide_eq_true q4
      have hr := Lib.hid (HE.out.trans (decide_eq_true (by omega)))
      clear HE yA
      go_wp2
      go_quiet ((first | (go_at_call_of 42 (Value.string a); exact quiet_left (HKa.out _)) | (go_at_call_of 42 (Value.string b); exact quiet_left (HKb.out _))))
      go_wp2
      go_quiet (fail)
      go_wp2
      go_ret
      first | exact ⟨by rw [hr.out]; rfl, HB.out _⟩ | exact ⟨by rw [hr.out]; rfl, below_drewN (HB.out _) _⟩
    · have b1 : (X == t) = false := beq_eq_false_iff_ne.2 q4
      have c4 : decide (X = t) = false := decide_eq_false q4
      have hr := Lib.hid (HE.out.trans (decide_eq_false (by omega)))
      clear HE yA
      go_wp2
      go_quiet ((first | (go_at_call_of 42 (Value.string a); exact quiet_left (HKa.out _)) | (go_at_call_of 42 (Value.string b); exact quiet_left (HKb.out _))))
      go_wp2
      go_quiet (fail)
      go_wp2
      go_ret
      first | exact ⟨by rw [hr.out]; rfl, HB.out _⟩ | exact ⟨by rw [hr.out]; rfl, below_drewN (HB.out _) _⟩
  · have HKb := Lib.hid (fun n => HAt.out b n)
    have HE := Lib.hid (HM5.out rfl)
    have tt := (H4.out (by decide)).2
    have n1 : IntKind.i64.wrap (t - 10) = t - 10 := IntWalk.i64_in _ (by omega)
    clear HM1 HM2 HM3 HM4 HM5 HM6 HM7 HMb HAt H3 H4 hbc' hdc' HLb HLd
    by_cases q4 : X ≤ t - 10
    · have c4 : decide (X ≤ t - 10) = true := decide_eq_true q4
      by_cases q6 : t ≤ Z
      · have c6 : decide (t ≤ Z) = true := decide_eq_true q6
        have hr := Lib.hid (HE.out.trans (decide_eq_true (by omega)))
        clear HE yA
        go_wp2
        go_quiet ((first | (go_at_call_of 42 (Value.string a); exact quiet_left (HKa.out _)) | (go_at_call_of 42 (Value.string b); exact quiet_left (HKb.out _))))
        go_wp2
        go_quiet (fail)
        go_wp2
        go_ret
        first | exact ⟨by rw [hr.out]; rfl, HB.out _⟩ | exact ⟨by rw [hr.out]; rfl, below_drewN (HB.out _) _⟩
      · have c6 : decide (t ≤ Z) = false := decide_eq_false q6
        have hr := Lib.hid (HE.out.trans (decide_eq_false (by omega)))
        clear HE yA
        go_wp2
        go_quiet ((first | (go_at_call_of 42 (Value.string a); exact quiet_left (HKa.out _)) | (go_at_call_of 42 (Value.string b); exact quiet_left (HKb.out _))))
        go_wp2
        go_quiet (fail)
        go_wp2
        go_ret
        first | exact ⟨by rw [hr.out]; rfl, HB.out _⟩ | exact ⟨by rw [hr.out]; rfl, below_drewN (HB.out _) _⟩
    · have c4 : decide (X ≤ t - 10) = false := decide_eq_false q4
      have hr := Lib.hid (HE.out.trans (decide_eq_false (by omega)))
      clear HE yA
      go_wp2
      go_quiet ((first | (go_at_call_of 42 (Value.string a); exact quiet_left (HKa.out _)) | (go_at_call_of 42 (Value.string b); exact quiet_left (HKb.out _))))
      go_wp2
      go_quiet (fail)
      go_wp2
      go_ret
      first | exact ⟨by rw [hr.out]; rfl, HB.out _⟩ | exact ⟨by rw [hr.out]; rfl, below_drewN (HB.out _) _⟩
  · have HKb := Lib.hid (fun n => HAt.out b n)
    have HE := Lib.hid (HM6.out rfl)
    have tt := (H4.out (by decide)).2
    clear HM1 HM2 HM3 HM4 HM5 HM6 HM7 HMb HAt H3 H4 hbc' hdc' HLb HLd
    by_cases q4 : X ≤ t
    · have c4 : decide (X ≤ t) = true := decide_eq_true q4
      by_cases q6 : t ≤ Z
      · have c6 : decide (t ≤ Z) = true := decide_eq_true q6
        have hr := Lib.hid (HE.out.trans (decide_eq_true (by omega)))
        clear HE yA
        go_wp2
        go_quiet ((first | (go_at_call_of 42 (Value.string a); exact quiet_left (HKa.out _)) | (go_at_call_of 42 (Value.string b); exact quiet_left (HKb.out _))))
        go_wp2
        go_quiet (fail)
        go_wp2
        go_ret
        first | exact ⟨by rw [hr.out]; rfl, HB.out _⟩ | exact ⟨by rw [hr.out]; rfl, below_drewN (HB.out _) _⟩
      · have c6 : decide (t ≤ Z) = false := decide_eq_false q6
        have hr := Lib.hid (HE.out.trans (decide_eq_false (by omega)))
        clear HE yA
        go_wp2
        go_quiet ((first | (go_at_call_of 42 (Value.string a); exact quiet_left (HKa.out _)) | (go_at_call_of 42 (Value.string b); exact quiet_left (HKb.out _))))
        go_wp2
        go_quiet (fail)
        go_wp2
        go_ret
        first | exact ⟨by rw [hr.out]; rfl, HB.out _⟩ | exact ⟨by rw [hr.out]; rfl, below_drewN (HB.out _) _⟩
    · have c4 : decide (X ≤ t) = false := decide_eq_false q4
      have hr := Lib.hid (HE.out.trans (decide_eq_false (by omega)))
      clear HE yA
      go_wp2
      go_quiet ((first | (go_at_call_of 42 (Value.string a); exact quiet_left (HKa.out _)) | (go_at_call_of 42 (Value.string b); exact quiet_left (HKb.out _))))
      go_wp2
      go_quiet (fail)
      go_wp2
      go_ret
      first | exact ⟨by rw [hr.out]; rfl, HB.out _⟩ | exact ⟨by rw [hr.out]; rfl, below_drewN (HB.out _) _⟩
  · have HKb := Lib.hid (fun n => HAt.out b n)
    have HE := Lib.hid (HM7.out rfl)
    have tt := (H4.out (by decide)).2
    clear HM1 HM2 HM3 HM4 HM5 HM6 HM7 HMb HAt H3 H4 hbc' hdc' HLb HLd
    by_cases q4 : Z ≤ t
    · have c4 : decide (Z ≤ t) = true := decide_eq_true q4
      have hr := Lib.hid (HE.out.trans (decide_eq_true (by omega)))
      clear HE yA
      go_wp2
      go_quiet ((first | (go_at_call_of 42 (Value.string a); exact quiet_left (HKa.out _)) | (go_at_call_of 42 (Value.string b); exact quiet_left (HKb.out _))))
      go_wp2
      go_quiet (fail)
      go_wp2
      go_ret
      first | exact ⟨by rw [hr.out]; rfl, HB.out _⟩ | exact ⟨by rw [hr.out]; rfl, below_drewN (HB.out _) _⟩
    · have c4 : decide (Z ≤ t) = false := decide_eq_false q4
      have hr := Lib.hid (HE.out.trans (decide_eq_false (by omega)))
      clear HE yA
      go_wp2
      go_quiet ((first | (go_at_call_of 42 (Value.string a); exact quiet_left (HKa.out _)) | (go_at_call_of 42 (Value.string b); exact quiet_left (HKb.out _))))
      go_wp2
      go_quiet (fail)
      go_wp2
      go_ret
      first | exact ⟨by rw [hr.out]; rfl, HB.out _⟩ | exact ⟨by rw [hr.out]; rfl, below_drewN (HB.out _) _⟩
theorem meets_any (v vb vd : Value) (ps : List ByteArray) (bs ds : List Int) (f : Fa) (w : World) (hv : Sl w 1 v (namesV ps)) (hb : Sl w 1 vb (bs.map (Value.int .i64))) (hd : Sl w 1 vd (ds.map (Value.int .i64))) (lb : bs.length = ps.length) (ld : ds.length = ps.length) (hp : ps.length ≤ 24) (hf : aboutB ps f = true) (hr : ∀ i, i < ps.length → yOk bs ds i = true) :
    Calls Tryd.prog 30 #[v, .agg #[vb, vd], faA f] w fun e w' => e = .returned (.bool (meetsB ps bs ds f)) ∧ Below w.heap.size w w' := by
  obtain ⟨h1, _⟩ := aboutB_iff.1 hf
  obtain ⟨k, a, b, t⟩ := f
  simp only at h1
  by_cases q : k ≤ 3
  · exact meets_pair v vb vd ps bs ds k a b t w hv hb hd lb ld hp hf hr (by omega)
  · exact meets_one v vb vd ps bs ds k a b t w hv hb hd lb ld hp hf hr (by omega)
end Go.Proofs.YtdmcopjbckelmaaDoor
