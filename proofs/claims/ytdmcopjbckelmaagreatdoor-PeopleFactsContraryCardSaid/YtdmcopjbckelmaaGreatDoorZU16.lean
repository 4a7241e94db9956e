/- Walks of the reference: Contradiction, Without. Conditions: those stated. -/
import Derived.Test.YtdmcopjbckelmaaGreatDoorZU14
import Derived.Test.YtdmcopjbckelmaaGreatDoorZB4
namespace Go.Proofs.YtdmcopjbckelmaaGreatDoor
open Go Go.RowKit Go.Shelf
attribute [local go_sem] Oper.semAt_some
theorem find_some {f : Nat → Option (List Nat)} {k : Nat} {x : List Nat} : ∀ (n s : Nat), (∀ j, s ≤ j → j < k → f j = none) → s ≤ k → k < s + n → f k = some x → (List.range' s n).findSome? f = some x := by
  intro n
  induction n with
  | zero => intro s _ h1 h2; omega
  | succ n ih =>
    intro s h0 h1 h2 h3
    rw [List.range'_succ, List.findSome?_cons]
    by_cases e : s = k
    · rw [e, h3]
    · rw [h0 s (Nat.le_refl _) (by omega)]
      exact ih (s + 1) (fun j hj => h0 j (by omega)) (by omega) (by omega) h3
theorem find_none {f : Nat → Option (List Nat)} : ∀ (n s : Nat), (∀ j, s ≤ j → j < s + n → f j = none) → (List.range' s n).findSome? f = none := by
  intro n
  induction n with
  | zero => intro s _; rfl
  | succ n ih =>
    intro s h0
    rw [List.range'_succ, List.findSome?_cons, h0 s (Nat.le_refl _) (by omega)]
    exact ih (s + 1) (fun j hj hk => h0 j (by omega) (by omega))
set_option maxRecDepth 100000 in
set_option maxHeartbeats 8000000 in
theorem rcontr_bad (r : Int) (hr : r = 3 ∨ r = 100) (A : Option Addr) (c : Nat) (F : Option Addr) (d : Nat) (ps : List ByteArray) (fs : List Fa) (most : Int) (w : World) (h : NetC w A ps.length c F fs.length d ps fs) (hs : Short ps) (hc : checkF ps fs = r) :
    Calls Tryz.prog 25 #[.agg #[.slice A ps.length c, .slice F fs.length d], .int .i64 most] w (ContrP ([], r) w) := by
  have hb0 := below_alloc' w (.cells #[.slice A ps.length c, .slice F fs.length d] 25)
  have HK := Lib.hid (rcheck_is hc _ (h.below hb0) hs)
  clear h hs hc
  rcases hr with rfl | rfl
  all_goals
    go_enter Tryz.func25, Tryz.ntmps25
    go_wp2_with fail
    refine HK.out.mono ?_
    rintro e w1 ⟨rfl, hb1⟩
    have HB := Lib.hid (hb0.trans (hb1.mono hb0.size))
    clear hb0 hb1 HK
    go_wp2
    go_ret2
    exact ⟨HB.out, _, rfl, Sl.nil0 _ _⟩
set_option maxRecDepth 100000 in
set_option maxHeartbeats 8000000 in
theorem rcontr_range (A : Option Addr) (c : Nat) (F : Option Addr) (d : Nat) (ps : List ByteArray) (fs : List Fa) (most : Int) (w : World) (h : NetC w A ps.length c F fs.length d ps fs) (hs : Short ps) (hc : checkF ps fs = 0) (hm : most < 1 ∨ 4 < most) :
    Calls Tryz.prog 25 #[.agg #[.slice A ps.length c, .slice F fs.length d], .int .i64 most] w (ContrP ([], 8) w) := by
  have hb0 := below_alloc' w (.cells #[.slice A ps.length c, .slice F fs.length d] 25)
  have HK := Lib.hid (rcheck_is hc _ (h.below hb0) hs)
  clear h hs hc
  by_cases q1 : most < 1
  · have d1 : decide (most < 1) = true := decide_eq_true q1
    clear hm
    go_enter Tryz.func25, Tryz.ntmps25
    go_wp2_with fail
    refine HK.out.mono ?_
    rintro e w1 ⟨rfl, hb1⟩
    have HB := Lib.hid (hb0.trans (hb1.mono hb0.size))
    clear hb0 hb1 HK
    go_wp2
    go_ret2
    exact ⟨HB.out, _, rfl, Sl.nil0 _ _⟩
  · have d1 : decide (most < 1) = false := decide_eq_false q1
    have q2 : 4 < most := by omega
    have d2 : decide (4 < most) = true := decide_eq_true q2
    clear hm
    go_enter Tryz.func25, Tryz.ntmps25
    go_wp2_with fail
    refine HK.out.mono ?_
    rintro e w1 ⟨rfl, hb1⟩
    have HB := Lib.hid (hb0.trans (hb1.mono hb0.size))
    clear hb0 hb1 HK
    go_wp2
    go_ret2
    exact ⟨HB.out, _, rfl, Sl.nil0 _ _⟩
set_option maxRecDepth 100000 in
set_option maxHeartbeats 8000000 in
theorem rcontr_good (A : Option Addr) (c : Nat) (F : Option Addr) (d : Nat) (ps : List ByteArray) (fs : List Fa) (most : Int) (w : World) (h : NetC w A ps.length c F fs.length d ps fs) (hs : Short ps) (hc : checkF ps fs = 0) (hp : ps.length ≤ 24) (hfew : fs.length ≤ 48) (hf : AllAbout ps fs) (M : Nat) (hM : most = (M : Int)) (h1 : 1 ≤ M) (h4 : M ≤ 4) (r : List Nat × Int) (hr1 : rcontrF ps fs M = none → r = ([], 4)) (hr2 : ∀ s, rcontrF ps fs M = some s → r = (s, 0)) :
    Calls Tryz.prog 25 #[.agg #[.slice A ps.length c, .slice F fs.length d], .int .i64 most] w (ContrP r w) := by
  have hb0 := below_alloc' w (.cells #[.slice A ps.length c, .slice F fs.length d] 25)
  have HY := Lib.hid (Cel.new w 25 #[.slice A ps.length c, .slice F fs.length d])
  have HK := Lib.hid (rcheck_is hc _ (h.below hb0) hs)
  have HSo := Lib.hid (fun w' (hw : Below w.heap.size w w') => rsolved2 (.slice A ps.length c) (.slice F fs.length d) ps fs w' (h.below hw).people (h.below hw).facts hp (by omega) hf)
  have HCh := Lib.hid (fun (m : Nat) w' (hw : Below w.heap.size w w') (hm : m ≤ 4) => rchosen_any ps fs hp hfew hf A c F d m (.slice none 0 0) [] 0 w' (h.below hw) (Sl.nil0 _ _) (by simpa using hm) (by simp))
  have H1 := Lib.hid hr1
  have H2 := Lib.hid hr2
  have q1 : ¬ most < 1 := by omega
  have d1 : decide (most < 1) = false := decide_eq_false q1
  have q2 : ¬ 4 < most := by omega
  have d2 : decide (4 < most) = false := decide_eq_false q2
  have HMo := Lib.hid hM
  clear h hs hc hp hfew hf hr1 hr2 hM
  go_enter Tryz.func25, Tryz.ntmps25
  go_wp2_with fail
  refine HK.out.mono ?_
  rintro e w1 ⟨rfl, hb1⟩
  have HB1 := Lib.hid (hb0.trans (hb1.mono hb0.size))
  replace HY := Lib.hid (HY.out.below HY.out.lt hb1)
  clear hb0 hb1 HK
  have z0 := HY.out.cell 0 _ rfl
  have z1 := HY.out.cell 1 _ rfl
  go_wp2_with fail
  refine (HSo.out _ HB1.out).mono ?_
  rintro e w2 ⟨hb2, hq⟩
  have HB2 := Lib.hid (HB1.out.trans (hb2.mono HB1.out.size))
  replace HY := Lib.hid (HY.out.below HY.out.lt hb2)
  clear hb2 z0 z1 HSo d1 d2
  rcases hq with ⟨hq, rfl⟩ | ⟨E, Mx, B, vs, hq, _, rfl, _⟩
  · have HNo := Lib.hid (show ¬ (solveF ps fs).isSome = true by rw [hq]; decide)
    have HU0 := Lib.hid (Below.refl w2.heap.size w2)
    clear hq
    go_wp2
    go_loopw [9] (fun ti wr => ∃ k : Nat, ti = .int .i64 k ∧ 1 ≤ k ∧ k ≤ M + 1 ∧ Hid (∀ j, 1 ≤ j → j < k → chF ps fs j [] 0 = none) ∧ Hid (Below w2.heap.size w2 wr)) (fun ti _ => M + 1 - (intOf ti).toNat)
    case atStart => exact ⟨1, rfl, by omega, by omega, fun j h1 h2 => by omega, HU0.out⟩
    case round =>
      clear HU0
      obtain ⟨k, rfl, hk1, hk2, HN, HU⟩ := hrel
      have HBu := Lib.hid (HB2.out.trans (HU.out.mono HB2.out.size))
      by_cases hlt : k ≤ M
      · have hki : (k : Int) ≤ most := by have := HMo.out; omega
        have z0 := (HY.out.below HY.out.lt HU.out).cell 0 _ rfl
        have z1 := (HY.out.below HY.out.lt HU.out).cell 1 _ rfl
        go_wp2_with fail
        refine (HCh.out k _ HBu.out (by omega)).mono ?_
        rintro e w3 ⟨hb3, Ar, nr, cr, rfl, hr⟩
        have HU3 := Lib.hid (HU.out.trans (hb3.mono HU.out.size))
        have HB3 := Lib.hid (HBu.out.trans (hb3.mono HBu.out.size))
        have HRs := Lib.hid hr
        clear hb3 hr z0 z1
        cases hq : chF ps fs k [] 0 with
        | some s =>
          rw [hq] at HRs
          have HE := Lib.hid (H2.out s (by
            unfold rcontrF
            rw [if_neg HNo.out]
            exact find_some M 1 HN.out hk1 (by omega) hq))
          have HRv := Lib.hid (HRs.out s rfl)
          clear hq
          simp only [Option.isSome_some]
          go_wp2
          go_ret2
          exact ⟨HB3.out, _, by rw [HE.out]; rfl, by rw [HE.out]; exact HRv.out⟩
        | none =>
          have HN2 := Lib.hid (show ∀ j, 1 ≤ j → j < k + 1 → chF ps fs j [] 0 = none from fun j h1 h2 => by
            rcases Nat.lt_succ_iff_lt_or_eq.1 h2 with z | z
            · exact HN.out j h1 z
            · rw [z]; exact hq)
          clear hq
          simp only [Option.isSome_none]
          go_wp2
          exact ⟨⟨k + 1, by go_num, by omega, by omega, HN2.out, HU3.out⟩, by simp [intOf]; omega⟩
      · have hki : ¬ (k : Int) ≤ most := by have := HMo.out; omega
        have HE := Lib.hid (H1.out (by
          unfold rcontrF
          rw [if_neg HNo.out]
          exact find_none M 1 (fun j h1 h2 => HN.out j h1 (by omega))))
        go_wp2
        go_ret2
        exact ⟨HBu.out, _, by rw [HE.out]; rfl, by rw [HE.out]; exact Sl.nil0 _ _⟩
  · have HE := Lib.hid (H1.out (by unfold rcontrF; rw [hq]; rfl))
    clear hq
    go_wp2
    go_ret2
    exact ⟨HB2.out, _, by rw [HE.out]; rfl, by rw [HE.out]; exact Sl.nil0 _ _⟩
/-- The reference answers as the program. -/
theorem rcontr_any (A : Option Addr) (c : Nat) (F : Option Addr) (d : Nat) (ps : List ByteArray) (fs : List Fa) (most : Int) (w : World) (h : NetC w A ps.length c F fs.length d ps fs) (hs : Short ps) :
    Calls Tryz.prog 25 #[.agg #[.slice A ps.length c, .slice F fs.length d], .int .i64 most] w (ContrP (contrV ps fs most) w) := by
  rcases checkF_cases ps fs with hc | hc | ⟨hc, hp, hfew, _, hf⟩
  · have := rcontr_bad 3 (.inl rfl) A c F d ps fs most w h hs hc
    unfold contrV
    rw [hc, if_pos (by decide)]
    exact this
  · have := rcontr_bad 100 (.inr rfl) A c F d ps fs most w h hs hc
    unfold contrV
    rw [hc, if_pos (by decide)]
    exact this
  · by_cases hm : most < 1 ∨ 4 < most
    · have := rcontr_range A c F d ps fs most w h hs hc hm
      unfold contrV
      rw [hc, if_neg (by decide), if_pos hm]
      exact this
    · refine rcontr_good A c F d ps fs most w h hs hc hp hfew hf most.toNat (by omega) (by omega) (by omega) _ (fun q => ?_) (fun s q => ?_)
      · rw [contr_ref hp hf] at q
        unfold contrV
        rw [hc, if_neg (by decide), if_neg hm, q]
      · rw [contr_ref hp hf] at q
        unfold contrV
        rw [hc, if_neg (by decide), if_neg hm, q]
set_option maxRecDepth 100000 in
set_option maxHeartbeats 8000000 in
theorem rwithout_bad (r : Int) (hr : r = 3 ∨ r = 100) (A : Option Addr) (c : Nat) (F : Option Addr) (d : Nat) (ps : List ByteArray) (fs : List Fa) (v : Value) (l : List Int) (w : World) (h : NetC w A ps.length c F fs.length d ps fs) (hs : Short ps) (hv : Sl w 1 v (l.map (Value.int .i64))) (hc : checkF ps fs = r) :
    Calls Tryz.prog 28 #[.agg #[.slice A ps.length c, .slice F fs.length d], v] w (MergeP ([], [], r) w) := by
  have hb0 := (below_alloc' w (.cells #[.slice A ps.length c, .slice F fs.length d] 25)).alloc (by simp) (.cells #[.slice none 0 0, .slice none 0 0] 25)
  have y0 := (Cel.new w 25 #[.slice A ps.length c, .slice F fs.length d]).alloc (.cells #[.slice none 0 0, .slice none 0 0] 25)
  have y1 := Cel.new (w.alloc (.cells #[.slice A ps.length c, .slice F fs.length d] 25)) 25 #[.slice none 0 0, .slice none 0 0]
  rw [World.size_alloc] at y1
  have HK := Lib.hid (rcheck_is hc _ (h.below hb0) hs)
  obtain ⟨Al, nl, cl, rfl, _⟩ := hv.shape
  clear h hs hv hc y0
  rcases hr with rfl | rfl
  all_goals
    go_enter Tryz.func28, Tryz.ntmps28
    go_wp2_with fail
    refine HK.out.mono ?_
    rintro e w1 ⟨rfl, hb1⟩
    have HB := Lib.hid (hb0.trans (hb1.mono hb0.size))
    have HR := Lib.hid (y1.below y1.lt hb1)
    clear hb0 hb1 y1 HK
    have q0 := HR.out.frozen 0
    have q1 := HR.out.frozen 1
    have q2 := HR.out.cell 0 _ rfl
    have q3 := HR.out.cell 1 _ rfl
    go_wp2
    have kk := HR.out.set2 (.slice none 0 0) (.slice none 0 0)
    have k0 := kk.cell 0 _ rfl
    have k1' := kk.cell 1 _ rfl
    have HEn := Lib.hid ((HB.out.setCell (p := ⟨(w.heap.size + 1), 0, none⟩) (by simp) (.slice none 0 0)).setCell (p := ⟨(w.heap.size + 1), 1, none⟩) (by simp) (.slice none 0 0))
    clear kk
    first
    | exact bodyPost_ret (v := .tuple #[.agg #[.slice none 0 0, .slice none 0 0], .int .i64 3]) (by simp [results, Tryz.results28, go_sem, k0, k1']) rfl ⟨HEn.out, _, _, _, _, _, _, rfl, net_nil _⟩
    | exact bodyPost_ret (v := .tuple #[.agg #[.slice none 0 0, .slice none 0 0], .int .i64 100]) (by simp [results, Tryz.results28, go_sem, k0, k1']) rfl ⟨HEn.out, _, _, _, _, _, _, rfl, net_nil _⟩
set_option maxRecDepth 100000 in
set_option maxHeartbeats 8000000 in
theorem rwithout_good (A : Option Addr) (c : Nat) (F : Option Addr) (d : Nat) (ps : List ByteArray) (fs : List Fa) (v : Value) (l : List Int) (w : World) (h : NetC w A ps.length c F fs.length d ps fs) (hs : Short ps) (hv : Sl w 1 v (l.map (Value.int .i64))) (hc : checkF ps fs = 0) (hp : ps.length ≤ 24) (hfew : fs.length ≤ 48) (r : List ByteArray × List Fa × Int) (hr1 : okI fs l = false → r = ([], [], 8)) (hr2 : okI fs l = true → r = (ps, selF fs (outL fs.length l), 0)) :
    Calls Tryz.prog 28 #[.agg #[.slice A ps.length c, .slice F fs.length d], v] w (MergeP r w) := by
  have hb0 := (below_alloc' w (.cells #[.slice A ps.length c, .slice F fs.length d] 25)).alloc (by simp) (.cells #[.slice none 0 0, .slice none 0 0] 25)
  have y0 := (Cel.new w 25 #[.slice A ps.length c, .slice F fs.length d]).alloc (.cells #[.slice none 0 0, .slice none 0 0] 25)
  have y1 := Cel.new (w.alloc (.cells #[.slice A ps.length c, .slice F fs.length d] 25)) 25 #[.slice none 0 0, .slice none 0 0]
  rw [World.size_alloc] at y1
  have HK := Lib.hid (rcheck_is hc _ (h.below hb0) hs)
  obtain ⟨_, _, _, hd1, _, hd2⟩ := h.many
  obtain ⟨Al, cl, ev, hcl, hclm, hvc⟩ := ints_at0 hv rfl
  subst ev
  have HVc := Lib.hid hvc
  have HN := Lib.hid h
  have HV := Lib.hid hv
  have HC := Lib.hid (fun w' h' => copyTexts_any (.slice A ps.length c) ps w' h' (by omega))
  have H1 := Lib.hid hr1
  have H2 := Lib.hid hr2
  clear h hs hv hc hr1 hr2 hvc
  go_enter Tryz.func28, Tryz.ntmps28
  go_wp2_with fail
  refine HK.out.mono ?_
  rintro e w1 ⟨rfl, hb1⟩
  have HB := Lib.hid (hb0.trans (hb1.mono hb0.size))
  have HY := Lib.hid (y0.below y0.lt hb1)
  have HR := Lib.hid (y1.below y1.lt hb1)
  have HSz := Lib.hid (show w.heap.size + 1 + 1 ≤ w1.heap.size by have := y1.lt; have := hb1.size; omega)
  clear hb0 hb1 y0 y1 HK
  go_wp2
  go_loopw [7] (fun ti wr => ∃ k : Nat, ti = .int .i64 k ∧ k ≤ l.length ∧ Hid (∀ j, j < k → goesB fs l j = true) ∧ Hid (Cel wr w.heap.size 25 #[.slice A ps.length c, .slice F fs.length d]) ∧ Hid (Cel wr (w.heap.size + 1) 25 #[.slice none 0 0, .slice none 0 0]) ∧ Hid (w.heap.size + 1 + 1 ≤ wr.heap.size) ∧ Hid (Below w.heap.size w wr)) (fun ti _ => l.length - (intOf ti).toNat)
  case atStart => exact ⟨0, rfl, by omega, fun j hj => absurd hj (Nat.not_lt_zero _), HY.out, HR.out, HSz.out, HB.out⟩
  case round =>
    clear HY HR HSz HB
    obtain ⟨k, rfl, hk, HO, HY, HR, HSz, HB⟩ := hrel
    have z1 := HY.out.cell 1 (.slice F fs.length d) rfl
    by_cases hlt : k < l.length
    · have hki : (k : Int) < (l.length : Int) := by omega
      have hk0' : (0 : Int) ≤ (k : Int) := by omega
      obtain ⟨bl, ol, rfl, _, hce⟩ := HVc.out (by omega)
      obtain ⟨z, hz⟩ : ∃ z : Int, l[k]? = some z := ⟨_, List.getElem?_eq_getElem hlt⟩
      have hzd : l.getD k 0 = z := by rw [List.getD_eq_getElem?_getD, hz]; rfl
      have e1 := below_cell HB.out (hce k z hz)
      have HCe := Lib.hid (fun K u hu => below_cell HB.out (hce K u hu))
      clear hce
      cases hg : goesB fs l k with
      | false =>
        have hr := Lib.hid (H1.out (okI_no hlt hg))
        unfold goesB at hg
        rw [hzd] at hg
        by_cases c1 : z < 0
        · have n1 : decide (z < 0) = true := decide_eq_true c1
          clear hg hz hzd
          skip
          go_upto_region 7 with fail
          go_quiet (fail)
          have HBq := Lib.hid (below_drewN HB.out nq)
          have HRq : Hid (Cel (wr.drewN nq) (w.heap.size + 1) 25 #[.slice none 0 0, .slice none 0 0]) := HR
          clear HB HR
          generalize wr.drewN nq = wq at *
          have q0 := HRq.out.frozen 0
          have q1 := HRq.out.frozen 1
          have q2 := HRq.out.cell 0 _ rfl
          have q3 := HRq.out.cell 1 _ rfl
          go_wp2
          have kk := HRq.out.set2 (.slice none 0 0) (.slice none 0 0)
          have k0 := kk.cell 0 _ rfl
          have k1' := kk.cell 1 _ rfl
          have HEn := Lib.hid ((HBq.out.setCell (p := ⟨(w.heap.size + 1), 0, none⟩) (by simp) (.slice none 0 0)).setCell (p := ⟨(w.heap.size + 1), 1, none⟩) (by simp) (.slice none 0 0))
          clear kk
          exact bodyPost_ret (v := .tuple #[.agg #[.slice none 0 0, .slice none 0 0], .int .i64 8]) (by simp [results, Tryz.results28, go_sem, k0, k1']) rfl ⟨HEn.out, _, _, _, _, _, _, by rw [hr.out], by rw [hr.out]; exact net_nil _⟩
        · have n1 : decide (z < 0) = false := decide_eq_false c1
          by_cases c2 : (fs.length : Int) ≤ z
          · have n2 : decide ((fs.length : Int) ≤ z) = true := decide_eq_true c2
            clear hg hz hzd
            skip
            go_upto_region 7 with fail
            go_quiet (fail)
            have HBq := Lib.hid (below_drewN HB.out nq)
            have HRq : Hid (Cel (wr.drewN nq) (w.heap.size + 1) 25 #[.slice none 0 0, .slice none 0 0]) := HR
            clear HB HR
            generalize wr.drewN nq = wq at *
            have q0 := HRq.out.frozen 0
            have q1 := HRq.out.frozen 1
            have q2 := HRq.out.cell 0 _ rfl
            have q3 := HRq.out.cell 1 _ rfl
            go_wp2
            have kk := HRq.out.set2 (.slice none 0 0) (.slice none 0 0)
            have k0 := kk.cell 0 _ rfl
            have k1' := kk.cell 1 _ rfl
            have HEn := Lib.hid ((HBq.out.setCell (p := ⟨(w.heap.size + 1), 0, none⟩) (by simp) (.slice none 0 0)).setCell (p := ⟨(w.heap.size + 1), 1, none⟩) (by simp) (.slice none 0 0))
            clear kk
            exact bodyPost_ret (v := .tuple #[.agg #[.slice none 0 0, .slice none 0 0], .int .i64 8]) (by simp [results, Tryz.results28, go_sem, k0, k1']) rfl ⟨HEn.out, _, _, _, _, _, _, by rw [hr.out], by rw [hr.out]; exact net_nil _⟩
          · have n2 : decide ((fs.length : Int) ≤ z) = false := decide_eq_false c2
            rcases Nat.eq_zero_or_pos k with hk0 | hk0
            · exfalso
              rw [decide_eq_true (show 0 ≤ z by omega), decide_eq_true (show z < (fs.length : Int) by omega), decide_eq_true hk0] at hg
              cases hg
            · obtain ⟨K, hK⟩ : ∃ K, k = K + 1 := ⟨k - 1, by omega⟩
              obtain ⟨zz, hz1⟩ : ∃ zz : Int, l[K]? = some zz := ⟨_, List.getElem?_eq_getElem (by omega)⟩
              have hz2 : ¬ zz < z := by
                intro q
                rw [decide_eq_true (show 0 ≤ z by omega), decide_eq_true (show z < (fs.length : Int) by omega), decide_eq_false (show ¬ k = 0 by omega), hK, Nat.add_sub_cancel, List.getD_eq_getElem?_getD, hz1] at hg
                simp at hg
                omega
              have dK := HCe.out K zz hz1
              have hwk : IntKind.i64.wrap ((k : Int) - 1) = (K : Int) := by rw [IntWalk.i64_in _ (by omega)]; omega
              have hKl : (K : Int) < (l.length : Int) := by omega
              have hK0 : (0 : Int) ≤ (K : Int) := by omega
              have hki0 : (0 : Int) < (k : Int) := by omega
              have n3 : decide ((0 : Int) < (k : Int)) = true := decide_eq_true hki0
              have n3' : decide (0 < k) = true := decide_eq_true hk0
              have n4 : decide (z ≤ zz) = true := decide_eq_true (by omega)
              clear hK hz1 hz2 hg hz hzd
              skip
              go_upto_region 7 with fail
              go_quiet (fail)
              have HBq := Lib.hid (below_drewN HB.out nq)
              have HRq : Hid (Cel (wr.drewN nq) (w.heap.size + 1) 25 #[.slice none 0 0, .slice none 0 0]) := HR
              clear HB HR
              generalize wr.drewN nq = wq at *
              have q0 := HRq.out.frozen 0
              have q1 := HRq.out.frozen 1
              have q2 := HRq.out.cell 0 _ rfl
              have q3 := HRq.out.cell 1 _ rfl
              go_wp2
              have kk := HRq.out.set2 (.slice none 0 0) (.slice none 0 0)
              have k0 := kk.cell 0 _ rfl
              have k1' := kk.cell 1 _ rfl
              have HEn := Lib.hid ((HBq.out.setCell (p := ⟨(w.heap.size + 1), 0, none⟩) (by simp) (.slice none 0 0)).setCell (p := ⟨(w.heap.size + 1), 1, none⟩) (by simp) (.slice none 0 0))
              clear kk
              exact bodyPost_ret (v := .tuple #[.agg #[.slice none 0 0, .slice none 0 0], .int .i64 8]) (by simp [results, Tryz.results28, go_sem, k0, k1']) rfl ⟨HEn.out, _, _, _, _, _, _, by rw [hr.out], by rw [hr.out]; exact net_nil _⟩
      | true =>
        have HG := Lib.hid hg
        unfold goesB at hg
        rw [hzd] at hg
        simp only [Bool.and_eq_true, Bool.or_eq_true, decide_eq_true_eq] at hg
        obtain ⟨⟨c1, c2⟩, c3⟩ := hg
        have c1' : ¬ z < 0 := by omega
        have c2' : ¬ (fs.length : Int) ≤ z := by omega
        have n1 : decide (z < 0) = false := decide_eq_false c1'
        have n2 : decide ((fs.length : Int) ≤ z) = false := decide_eq_false c2'
        rcases Nat.eq_zero_or_pos k with hk0 | hk0
        · have hki0 : ¬ (0 : Int) < (k : Int) := by omega
          have n3 : decide ((0 : Int) < (k : Int)) = false := decide_eq_false hki0
          have n3' : decide (0 < k) = false := decide_eq_false (by omega)
          clear hz hzd c3 hk0
          go_upto_region 7 with fail
          go_quiet (fail)
          go_wp2
          refine ⟨⟨k + 1, by go_num, by omega, fun j hj => ?_, HY.out, HR.out, HSz.out, below_drewN HB.out _⟩, by simp [intOf]; omega⟩
          rcases Nat.lt_succ_iff_lt_or_eq.1 hj with e | e
          · exact HO.out j e
          · rw [e]; exact HG.out
        · obtain ⟨K, hK⟩ : ∃ K, k = K + 1 := ⟨k - 1, by omega⟩
          obtain ⟨zz, hz1⟩ : ∃ zz : Int, l[K]? = some zz := ⟨_, List.getElem?_eq_getElem (by omega)⟩
          have hz2 : zz < z := by
            rw [hK, Nat.add_sub_cancel, List.getD_eq_getElem?_getD, hz1] at c3
            simp only [Option.getD_some] at c3
            omega
          have dK := HCe.out K zz hz1
          have hwk : IntKind.i64.wrap ((k : Int) - 1) = (K : Int) := by rw [IntWalk.i64_in _ (by omega)]; omega
          have hKl : (K : Int) < (l.length : Int) := by omega
          have hK0 : (0 : Int) ≤ (K : Int) := by omega
          have hki0 : (0 : Int) < (k : Int) := by omega
          have n3 : decide ((0 : Int) < (k : Int)) = true := decide_eq_true hki0
          have n3' : decide (0 < k) = true := decide_eq_true hk0
          have n4' : ¬ z ≤ zz := by omega
          have n4 : decide (z ≤ zz) = false := decide_eq_false n4'
          clear hK hz1 hz hzd c3
          go_upto_region 7 with fail
          go_quiet (fail)
          go_wp2
          refine ⟨⟨k + 1, by go_num, by omega, fun j hj => ?_, HY.out, HR.out, HSz.out, below_drewN HB.out _⟩, by simp [intOf]; omega⟩
          rcases Nat.lt_succ_iff_lt_or_eq.1 hj with e | e
          · exact HO.out j e
          · rw [e]; exact HG.out
    · have hr := Lib.hid (H2.out (okI_yes (fun j hj => HO.out j (by omega))))
      have z0 := HY.out.cell 0 _ rfl
      clear z1 HO
      go_wp2_with fail
      refine (HC.out _ (HN.out.people.below HB.out)).mono ?_
      rintro e w2 ⟨v2, rfl, hb2, ho2⟩
      obtain ⟨A2, c2, rfl, _⟩ := own_slice ho2
      have HP2 := Lib.hid (Sl.of_own ho2)
      have HB2 := Lib.hid (HB.out.trans (hb2.mono HB.out.size))
      replace HY := Lib.hid (HY.out.below HY.out.lt hb2)
      replace HR := Lib.hid (HR.out.below HR.out.lt hb2)
      have HSz2 := Lib.hid (show w.heap.size + 1 + 1 ≤ w2.heap.size by have := HSz.out; have := hb2.size; omega)
      have l0 := (Cel.new w2 25 #[.slice none 0 0, .slice none 0 0]).cell 0 _ rfl
      have l1 := (Cel.new w2 25 #[.slice none 0 0, .slice none 0 0]).cell 1 _ rfl
      have l2 := (Cel.new w2 25 #[.slice none 0 0, .slice none 0 0]).frozen 0
      have l3 := (Cel.new w2 25 #[.slice none 0 0, .slice none 0 0]).frozen 1
      clear hb2 ho2 z0 HB HSz
      go_upto_region 10 with fail
      clear l0 l1 l2 l3
      have HO0 := Lib.hid (Cel.new w2 25 #[.slice A2 ps.length c2, .slice none 0 0])
      have hb3 := below_alloc' w2 (.cells #[.slice A2 ps.length c2, .slice none 0 0] 25)
      have hlt3 : w2.heap.size < (w2.alloc (.cells #[.slice A2 ps.length c2, .slice none 0 0] 25)).heap.size := by simp
      generalize w2.alloc (.cells #[.slice A2 ps.length c2, .slice none 0 0] 25) = w3 at *
      obtain ⟨Bo, hBo⟩ : ∃ Bo, w2.heap.size = Bo := ⟨_, rfl⟩
      have HB3 := Lib.hid (HB2.out.trans (hb3.mono HB2.out.size))
      replace HY := Lib.hid (HY.out.below HY.out.lt hb3)
      replace HR := Lib.hid (HR.out.below HR.out.lt hb3)
      have HD0 := Lib.hid hb3
      rw [hBo] at HO0 hlt3 ⊢
      have HBo := Lib.hid (show w.heap.size + 1 + 1 ≤ Bo by have := HSz2.out; omega)
      have HBe := Lib.hid hBo
      clear hb3 hBo HB2 HSz2
      go_wp2
      go_loopw [9] (fun ti wr => ∃ (k : Nat) (vb : Value), ti = .int .i64 k ∧ k ≤ fs.length ∧ Hid (Cel wr Bo 25 #[.slice A2 ps.length c2, vb]) ∧ Hid (wr.ownsRow (Bo + 1) 76 4 vb (outL k l).length (fasV (selF fs (outL k l)))) ∧ Hid (Cel wr w.heap.size 25 #[.slice A ps.length c, .slice F fs.length d]) ∧ Hid (Cel wr (w.heap.size + 1) 25 #[.slice none 0 0, .slice none 0 0]) ∧ Hid (Below w2.heap.size w2 wr) ∧ Hid (Below w.heap.size w wr)) (fun ti _ => fs.length - (intOf ti).toNat)
      case atStart => exact ⟨0, _, rfl, by omega, HO0.out, World.ownsRow_nil _ _ _ _, HY.out, HR.out, HD0.out, HB3.out⟩
      case round =>
        clear HO0 HY HR HD0 HB3 hlt3
        obtain ⟨k, vb, rfl, hk, HO, HW, HY, HR, HP, HB⟩ := hrel
        obtain ⟨Ab, cb, rfl, _⟩ := own_shape HW.out
        have z1 := HY.out.cell 1 (.slice F fs.length d) rfl
        by_cases hlt : k < fs.length
        · have hki : (k : Int) < (fs.length : Int) := by omega
          have hk0 : (0 : Int) ≤ (k : Int) := by omega
          obtain ⟨bF, oF, rfl, _, hcF⟩ := HN.out.fact (by omega)
          have hfj : fs[k]? = some fs[k] := List.getElem?_eq_getElem hlt
          obtain ⟨g1, g2, g3, g4⟩ := hcF k _ hfj
          have HG := Lib.hid (⟨g1, g2, g3, g4⟩ : _ ∧ _ ∧ _ ∧ _)
          have HS := Lib.hid (outL_succ k l)
          have HLn := Lib.hid (outL_len k l)
          have HF := Lib.hid (show fasV (selF fs [k]) = faV fs[k] by
            unfold selF
            rw [List.map_cons, List.map_nil, List.getD_eq_getElem?_getD, hfj]
            simp [fasV])
          have HK := Lib.hid (has_any (.slice Al l.length cl) l (k : Int) wr (HV.out.below HB.out))
          clear hcF hfj g1 g2 g3 g4
          generalize fs[k] = f at *
          obtain ⟨fk, fa, fb, ft⟩ := f
          simp only at HG
          unfold faV at HF
          simp only at HF
          go_wp2_with fail
          refine HK.out.mono ?_
          rintro e w' ⟨rfl, rfl⟩
          clear z1 HK
          cases hct : l.contains (k : Int) with
          | true =>
            rw [hct, if_pos rfl, List.append_nil] at HS
            clear hct
            go_wp2
            go_roundw
            case rel => exact ⟨k + 1, .slice Ab (outL k l).length cb, by go_num, by omega, HO.out, by rw [HS.out]; exact HW.out, HY.out, HR.out, HP.out, HB.out⟩
            case measure => simp [intOf]; omega
          | false =>
            rw [hct, if_neg (by decide)] at HS
            clear hct
            have HL1 := Lib.hid HO.out.lt
            have HE2 := Lib.hid (show fasV (selF fs (outL (k + 1) l)) = fasV (selF fs (outL k l)) ++ [.int .i64 fk, .string fa, .string fb, .int .i64 ft] by
              rw [HS.out]
              unfold selF
              rw [List.map_append]
              unfold fasV
              rw [List.flatMap_append]
              exact congrArg _ HF.out)
            have HE1 := Lib.hid (show (outL (k + 1) l).length = (outL k l).length + 1 by rw [HS.out, List.length_append, List.length_singleton])
            go_upto_region 14 with fail
            have HSd : (wr.drew.cell? ⟨w.heap.size, 1, none⟩ = some (.slice (some ⟨bF, oF, none⟩) fs.length d) ∧ Below w.heap.size w wr.drew) := ⟨HY.out.cell 1 _ rfl, below_drew HB.out⟩
            refine wp_region_held_drew (S := fun w' => (w'.cell? ⟨w.heap.size, 1, none⟩ = some (.slice (some ⟨bF, oF, none⟩) fs.length d) ∧ Below w.heap.size w w')) (by kernel_rfl) HSd (fun hHeld => ?_)
            clear HSd
            have HO2 : Hid (Cel wr.drew Bo 25 #[.slice A2 ps.length c2, .slice Ab (outL k l).length cb]) := HO
            have HW2 : Hid (wr.drew.ownsRow (Bo + 1) 76 4 (.slice Ab (outL k l).length cb) (outL k l).length (fasV (selF fs (outL k l)))) := HW
            have HY2 : Hid (Cel wr.drew w.heap.size 25 #[.slice A ps.length c, .slice (some ⟨bF, oF, none⟩) fs.length d]) := HY
            have HR2 : Hid (Cel wr.drew (w.heap.size + 1) 25 #[.slice none 0 0, .slice none 0 0]) := HR
            have HP3 := Lib.hid (below_drew HP.out)
            have HB3 := Lib.hid (below_drew HB.out)
            have HL2 : Hid (Bo < wr.drew.heap.size) := HL1
            clear HO HW HY HR HP HB HL1
            generalize wr.drew = V at *
            refine wpAnyH_takeD (i := 0) (v := ?_) 69 rfl (by kernel_rfl) (by kernel_rfl) (by kernel_rfl) (fun _ _ _ h => h) (Or.inl ⟨by rfl, ?_⟩) (by assumption) rfl ?_
            rotate_left
            · intro w' hSw
              have z1 := hSw.1; have g1 := below_cell hSw.2 HG.out.1; have g2 := below_cell hSw.2 HG.out.2.1; have g3 := below_cell hSw.2 HG.out.2.2.1; have g4 := below_cell hSw.2 HG.out.2.2.2
              go_simp <;> with_reducible rfl
            simp only [List.setIfInBounds_toArray, List.set_cons_succ, List.set_cons_zero]
            refine wpAnyH_takeD (i := 2) (v := ?_) 71 rfl (by kernel_rfl) (by kernel_rfl) (by kernel_rfl) (fun _ _ _ h => h) (Or.inl ⟨by rfl, ?_⟩) (by assumption) rfl ?_
            rotate_left
            · intro w' hSw
              have z1 := hSw.1; have g1 := below_cell hSw.2 HG.out.1; have g2 := below_cell hSw.2 HG.out.2.1; have g3 := below_cell hSw.2 HG.out.2.2.1; have g4 := below_cell hSw.2 HG.out.2.2.2
              go_simp <;> with_reducible rfl
            simp only [List.setIfInBounds_toArray, List.set_cons_succ, List.set_cons_zero]
            refine wpAnyH_takeD (i := 3) (v := ?_) 72 rfl (by kernel_rfl) (by kernel_rfl) (by kernel_rfl) (fun _ _ _ h => h) (Or.inl ⟨by rfl, ?_⟩) (by assumption) rfl ?_
            rotate_left
            · intro w' hSw
              have z1 := hSw.1; have g1 := below_cell hSw.2 HG.out.1; have g2 := below_cell hSw.2 HG.out.2.1; have g3 := below_cell hSw.2 HG.out.2.2.1; have g4 := below_cell hSw.2 HG.out.2.2.2
              go_simp <;> with_reducible rfl
            simp only [List.setIfInBounds_toArray, List.set_cons_succ, List.set_cons_zero]
            refine wpAnyH_takeD (i := 4) (v := ?_) 73 rfl (by kernel_rfl) (by kernel_rfl) (by kernel_rfl) (fun _ _ _ h => h) (Or.inl ⟨by rfl, ?_⟩) (by assumption) rfl ?_
            rotate_left
            · intro w' hSw
              have z1 := hSw.1; have g1 := below_cell hSw.2 HG.out.1; have g2 := below_cell hSw.2 HG.out.2.1; have g3 := below_cell hSw.2 HG.out.2.2.1; have g4 := below_cell hSw.2 HG.out.2.2.2
              go_simp <;> with_reducible rfl
            simp only [List.setIfInBounds_toArray, List.set_cons_succ, List.set_cons_zero]
            refine wpAnyH_takeD (i := 5) (v := ?_) 74 rfl (by kernel_rfl) (by kernel_rfl) (by kernel_rfl) (fun _ _ _ h => h) (Or.inl ⟨by rfl, ?_⟩) (by assumption) rfl ?_
            rotate_left
            · intro w' hSw
              have z1 := hSw.1; have g1 := below_cell hSw.2 HG.out.1; have g2 := below_cell hSw.2 HG.out.2.1; have g3 := below_cell hSw.2 HG.out.2.2.1; have g4 := below_cell hSw.2 HG.out.2.2.2
              go_simp <;> with_reducible rfl
            simp only [List.setIfInBounds_toArray, List.set_cons_succ, List.set_cons_zero]
            refine wpAnyH_takeD (i := 6) (v := ?_) 75 rfl (by kernel_rfl) (by kernel_rfl) (by kernel_rfl) (fun _ _ _ h => h) (Or.inl ⟨by rfl, ?_⟩) (by assumption) rfl ?_
            rotate_left
            · intro w' hSw
              have z1 := hSw.1; have g1 := below_cell hSw.2 HG.out.1; have g2 := below_cell hSw.2 HG.out.2.1; have g3 := below_cell hSw.2 HG.out.2.2.1; have g4 := below_cell hSw.2 HG.out.2.2.2
              go_simp <;> with_reducible rfl
            simp only [List.setIfInBounds_toArray, List.set_cons_succ, List.set_cons_zero]
            refine wpAnyH_ready (rs := [1, 7]) (by kernel_rfl) (by simp) ?_
            refine AllReadyH.cons (o := _) rfl (fun K hK => ?_) (AllReadyH.cons (o := _) rfl (fun K hK => ?_) AllReadyH.nil)
            · have o1 := HO2.out.cell 1 _ rfl
              go_simp
              refine hK.out _ _ ⟨HY2.out.cell 1 _ rfl, HB3.out⟩ (fun hHeld2 => ?_)
              clear hK K o1
              refine wpAnyH_ready (rs := [7]) (by kernel_rfl) (by simp) ?_
              refine AllReadyH.cons (o := _) rfl (fun K hK => ?_) AllReadyH.nil
              go_simp
              refine hK.out _ _ ⟨(HY2.out.alloc (.cells #[.int .i64 fk, .string fa, .string fb, .int .i64 ft] 76)).cell 1 _ rfl, (HB3.out.alloc HB3.out.size (.cells #[.int .i64 fk, .string fa, .string fb, .int .i64 ft] 76))⟩ (fun hHeld3 => ?_)
              clear hK K
              refine wpAnyH_ready (rs := [8]) (by kernel_rfl) (by simp) ?_
              refine AllReadyH.cons (o := _) rfl (fun K hK => ?_) AllReadyH.nil
              have HSx := Lib.hid (Sl.new (s := 4) V 76 1 1 #[.int .i64 fk, .string fa, .string fb, .int .i64 ft] rfl (Nat.le_refl _) (by decide))
              refine stepFact (.tmp 70) (.tmp 76) rfl rfl (by rfl) (by rfl) (HW2.out.alloc (.cells #[.int .i64 fk, .string fa, .string fb, .int .i64 ft] 76)) HSx.out (by simp [Value.oneCell']) (N := (outL k l).length + 1) (by simp; omega) (by have := HLn.out; omega) (by have := HL2.out; simp; omega) ?_
              intro A5 c5 w5 hap
              have HBn := Lib.hid (below_of_own hap.grown (HW2.out.alloc (.cells #[.int .i64 fk, .string fa, .string fb, .int .i64 ft] 76)) (HB3.out.alloc HB3.out.size (.cells #[.int .i64 fk, .string fa, .string fb, .int .i64 ft] 76)) (by have := HBo.out; omega))
              have HOn := Lib.hid ((HO2.out.alloc (.cells #[.int .i64 fk, .string fa, .string fb, .int .i64 ft] 76)).kept hap.grown (fun e => by have := own_ge (HW2.out.alloc (.cells #[.int .i64 fk, .string fa, .string fb, .int .i64 ft] 76)) e.symm; omega))
              have HYn := Lib.hid ((HY2.out.alloc (.cells #[.int .i64 fk, .string fa, .string fb, .int .i64 ft] 76)).kept hap.grown (fun e => by have := own_ge (HW2.out.alloc (.cells #[.int .i64 fk, .string fa, .string fb, .int .i64 ft] 76)) e.symm; have := HBo.out; omega))
              have HRn := Lib.hid ((HR2.out.alloc (.cells #[.int .i64 fk, .string fa, .string fb, .int .i64 ft] 76)).kept hap.grown (fun e => by have := own_ge (HW2.out.alloc (.cells #[.int .i64 fk, .string fa, .string fb, .int .i64 ft] 76)) e.symm; have := HBo.out; omega))
              have HWn := Lib.hid hap.own
              have HPn := Lib.hid (below_of_own hap.grown (HW2.out.alloc (.cells #[.int .i64 fk, .string fa, .string fb, .int .i64 ft] 76)) (HP3.out.alloc HP3.out.size (.cells #[.int .i64 fk, .string fa, .string fb, .int .i64 ft] 76)) (by have := HBe.out; omega))
              clear hap
              go_simp
              refine hK.out _ _ ⟨HYn.out.cell 1 _ rfl, HBn.out⟩ (fun hHeld4 => ?_)
              clear hK K
              refine wpAnyH_takeD (i := 9) (v := ?_) 78 rfl (by kernel_rfl) (by kernel_rfl) (by kernel_rfl) (fun _ _ _ h => h) (Or.inl ⟨by rfl, ?_⟩) (by assumption) rfl ?_
              rotate_left
              · intro w' hSw
                go_simp <;> with_reducible rfl
              simp only [List.setIfInBounds_toArray, List.set_cons_succ, List.set_cons_zero]
              have f1 := HOn.out.frozen 1
              have o1 := HOn.out.cell 1 _ rfl
              have HO9 := Lib.hid (HOn.out.setAt 1 (.slice A5 ((outL k l).length + 1) c5))
              have HY9 := Lib.hid (HYn.out.other (p := ⟨Bo, 1, none⟩) (by have := HBo.out; simp; omega) (.slice A5 ((outL k l).length + 1) c5))
              have HB9 := Lib.hid (HBn.out.setCell (p := ⟨Bo, 1, none⟩) (by have := HBo.out; simp; omega) (.slice A5 ((outL k l).length + 1) c5))
              refine wpAnyH_ready (rs := [10]) (by kernel_rfl) (by simp) ?_
              refine AllReadyH.cons (o := _) rfl (fun K hK => ?_) AllReadyH.nil
              go_simp
              refine hK.out _ _ ⟨HY9.out.cell 1 _ rfl, HB9.out⟩ (fun hHeld5 => ?_)
              clear hK K
              refine wpAnyH_done (by kernel_rfl) ?_ _
              go_wp2
              go_roundw
              case rel =>
                refine ⟨k + 1, .slice A5 ((outL k l).length + 1) c5, by go_num, by omega, HO9.out, ?_, HY9.out, HRn.out.other (p := ⟨Bo, 1, none⟩) (by have := HBo.out; simp; omega) _, HPn.out.setCell (p := ⟨Bo, 1, none⟩) (by have := HBe.out; simp; omega) _, HB9.out⟩
                show World.ownsRow _ _ _ _ _ _ _
                rw [HE1.out, HE2.out]
                exact own_ne HWn.out (fun e => by have := own_ge HWn.out e; simp at this; omega) _
              case measure => simp [intOf]; omega
            · go_simp
              refine hK.out _ _ ⟨(HY2.out.alloc (.cells #[.int .i64 fk, .string fa, .string fb, .int .i64 ft] 76)).cell 1 _ rfl, (HB3.out.alloc HB3.out.size (.cells #[.int .i64 fk, .string fa, .string fb, .int .i64 ft] 76))⟩ (fun hHeld3 => ?_)
              clear hK K
              have o1 := (HO2.out.alloc (.cells #[.int .i64 fk, .string fa, .string fb, .int .i64 ft] 76)).cell 1 _ rfl
              refine wpAnyH_ready (rs := [1]) (by kernel_rfl) (by simp) ?_
              refine AllReadyH.cons (o := _) rfl (fun K hK => ?_) AllReadyH.nil
              go_simp
              refine hK.out _ _ ⟨(HY2.out.alloc (.cells #[.int .i64 fk, .string fa, .string fb, .int .i64 ft] 76)).cell 1 _ rfl, (HB3.out.alloc HB3.out.size (.cells #[.int .i64 fk, .string fa, .string fb, .int .i64 ft] 76))⟩ (fun hHeld2 => ?_)
              clear o1
              clear hK K
              refine wpAnyH_ready (rs := [8]) (by kernel_rfl) (by simp) ?_
              refine AllReadyH.cons (o := _) rfl (fun K hK => ?_) AllReadyH.nil
              have HSx := Lib.hid (Sl.new (s := 4) V 76 1 1 #[.int .i64 fk, .string fa, .string fb, .int .i64 ft] rfl (Nat.le_refl _) (by decide))
              refine stepFact (.tmp 70) (.tmp 76) rfl rfl (by rfl) (by rfl) (HW2.out.alloc (.cells #[.int .i64 fk, .string fa, .string fb, .int .i64 ft] 76)) HSx.out (by simp [Value.oneCell']) (N := (outL k l).length + 1) (by simp; omega) (by have := HLn.out; omega) (by have := HL2.out; simp; omega) ?_
              intro A5 c5 w5 hap
              have HBn := Lib.hid (below_of_own hap.grown (HW2.out.alloc (.cells #[.int .i64 fk, .string fa, .string fb, .int .i64 ft] 76)) (HB3.out.alloc HB3.out.size (.cells #[.int .i64 fk, .string fa, .string fb, .int .i64 ft] 76)) (by have := HBo.out; omega))
              have HOn := Lib.hid ((HO2.out.alloc (.cells #[.int .i64 fk, .string fa, .string fb, .int .i64 ft] 76)).kept hap.grown (fun e => by have := own_ge (HW2.out.alloc (.cells #[.int .i64 fk, .string fa, .string fb, .int .i64 ft] 76)) e.symm; omega))
              have HYn := Lib.hid ((HY2.out.alloc (.cells #[.int .i64 fk, .string fa, .string fb, .int .i64 ft] 76)).kept hap.grown (fun e => by have := own_ge (HW2.out.alloc (.cells #[.int .i64 fk, .string fa, .string fb, .int .i64 ft] 76)) e.symm; have := HBo.out; omega))
              have HRn := Lib.hid ((HR2.out.alloc (.cells #[.int .i64 fk, .string fa, .string fb, .int .i64 ft] 76)).kept hap.grown (fun e => by have := own_ge (HW2.out.alloc (.cells #[.int .i64 fk, .string fa, .string fb, .int .i64 ft] 76)) e.symm; have := HBo.out; omega))
              have HWn := Lib.hid hap.own
              have HPn := Lib.hid (below_of_own hap.grown (HW2.out.alloc (.cells #[.int .i64 fk, .string fa, .string fb, .int .i64 ft] 76)) (HP3.out.alloc HP3.out.size (.cells #[.int .i64 fk, .string fa, .string fb, .int .i64 ft] 76)) (by have := HBe.out; omega))
              clear hap
              go_simp
              refine hK.out _ _ ⟨HYn.out.cell 1 _ rfl, HBn.out⟩ (fun hHeld4 => ?_)
              clear hK K
              refine wpAnyH_takeD (i := 9) (v := ?_) 78 rfl (by kernel_rfl) (by kernel_rfl) (by kernel_rfl) (fun _ _ _ h => h) (Or.inl ⟨by rfl, ?_⟩) (by assumption) rfl ?_
              rotate_left
              · intro w' hSw
                go_simp <;> with_reducible rfl
              simp only [List.setIfInBounds_toArray, List.set_cons_succ, List.set_cons_zero]
              have f1 := HOn.out.frozen 1
              have o1 := HOn.out.cell 1 _ rfl
              have HO9 := Lib.hid (HOn.out.setAt 1 (.slice A5 ((outL k l).length + 1) c5))
              have HY9 := Lib.hid (HYn.out.other (p := ⟨Bo, 1, none⟩) (by have := HBo.out; simp; omega) (.slice A5 ((outL k l).length + 1) c5))
              have HB9 := Lib.hid (HBn.out.setCell (p := ⟨Bo, 1, none⟩) (by have := HBo.out; simp; omega) (.slice A5 ((outL k l).length + 1) c5))
              refine wpAnyH_ready (rs := [10]) (by kernel_rfl) (by simp) ?_
              refine AllReadyH.cons (o := _) rfl (fun K hK => ?_) AllReadyH.nil
              go_simp
              refine hK.out _ _ ⟨HY9.out.cell 1 _ rfl, HB9.out⟩ (fun hHeld5 => ?_)
              clear hK K
              refine wpAnyH_done (by kernel_rfl) ?_ _
              go_wp2
              go_roundw
              case rel =>
                refine ⟨k + 1, .slice A5 ((outL k l).length + 1) c5, by go_num, by omega, HO9.out, ?_, HY9.out, HRn.out.other (p := ⟨Bo, 1, none⟩) (by have := HBo.out; simp; omega) _, HPn.out.setCell (p := ⟨Bo, 1, none⟩) (by have := HBe.out; simp; omega) _, HB9.out⟩
                show World.ownsRow _ _ _ _ _ _ _
                rw [HE1.out, HE2.out]
                exact own_ne HWn.out (fun e => by have := own_ge HWn.out e; simp at this; omega) _
              case measure => simp [intOf]; omega
        · have hkn : k = fs.length := by omega
          have HKn := Lib.hid hkn
          clear hkn
          have HPe := Lib.hid (HP2.out.below HP.out)
          have o0 := HO.out.cell 0 _ rfl
          have o1 := HO.out.cell 1 _ rfl
          have q0 := HR.out.frozen 0
          have q1 := HR.out.frozen 1
          have q2 := HR.out.cell 0 _ rfl
          have q3 := HR.out.cell 1 _ rfl
          go_wp2
          have kk := HR.out.set2 (.slice A2 ps.length c2) (.slice Ab (outL k l).length cb)
          have k0 := kk.cell 0 _ rfl
          have k1' := kk.cell 1 _ rfl
          clear kk
          have q4 := (HR.out.setAt 0 (.slice A2 ps.length c2)).cell 1 (.slice none 0 0) rfl
          have HSl := Lib.hid (((Sl.of_own HW.out).setCell q2 (fun u hu => fas_plain hu _ _ _) (.slice A2 ps.length c2)).setCell q4 (fun u hu => fas_plain hu _ _ _) (.slice Ab (outL k l).length cb))
          have HSp := Lib.hid ((HPe.out.setCell q2 (fun u hu => nm_plain hu _ _ _) (.slice A2 ps.length c2)).setCell q4 (fun u hu => nm_plain hu _ _ _) (.slice Ab (outL k l).length cb))
          have HBf := Lib.hid ((HB.out.setCell (p := ⟨(w.heap.size + 1), 0, none⟩) (by simp) (.slice A2 ps.length c2)).setCell (p := ⟨(w.heap.size + 1), 1, none⟩) (by simp) (.slice Ab (outL k l).length cb))
          clear q4
          exact bodyPost_ret (v := .tuple #[.agg #[.slice A2 ps.length c2, .slice Ab (outL k l).length cb], .int .i64 0]) (by simp [results, Tryz.results28, go_sem, k0, k1']) rfl ⟨HBf.out, _, _, _, _, _, _, by rw [hr.out], by rw [hr.out, ← HKn.out]; exact ⟨HSp.out, HSl.out⟩⟩
/-- The reference answers as the program. -/
theorem rwithout_any (A : Option Addr) (c : Nat) (F : Option Addr) (d : Nat) (ps : List ByteArray) (fs : List Fa) (v : Value) (l : List Int) (w : World) (h : NetC w A ps.length c F fs.length d ps fs) (hs : Short ps) (hv : Sl w 1 v (l.map (Value.int .i64))) :
    Calls Tryz.prog 28 #[.agg #[.slice A ps.length c, .slice F fs.length d], v] w (MergeP (woV ps fs l) w) := by
  rcases checkF_cases ps fs with hc | hc | ⟨hc, hp, hfew, _, _⟩
  · have := rwithout_bad 3 (.inl rfl) A c F d ps fs v l w h hs hv hc
    unfold woV
    rw [hc, if_pos (by decide)]
    exact this
  · have := rwithout_bad 100 (.inr rfl) A c F d ps fs v l w h hs hv hc
    unfold woV
    rw [hc, if_pos (by decide)]
    exact this
  · refine rwithout_good A c F d ps fs v l w h hs hv hc hp hfew _ (fun q => ?_) (fun q => ?_)
    · unfold woV
      rw [hc, if_neg (by decide), q, if_neg (by decide)]
    · unfold woV
      rw [hc, if_neg (by decide), q, if_pos rfl]
end Go.Proofs.YtdmcopjbckelmaaGreatDoor
