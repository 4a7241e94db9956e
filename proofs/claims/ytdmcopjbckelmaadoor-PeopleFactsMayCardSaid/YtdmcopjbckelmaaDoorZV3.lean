/- PeopleMustMay: the walk. Conditions: those stated. -/
import Derived.Test.YtdmcopjbckelmaaDoorZL3
import Derived.Test.YtdmcopjbckelmaaDoorZH
namespace Go.Proofs.YtdmcopjbckelmaaDoor
open Go Go.RowKit Go.Shelf
attribute [local go_sem] Oper.semAt_some

theorem none_of {o : Option Mat} (h : o.isSome = false) : o = none := by
  cases o with
  | none => rfl
  | some x => cases h
theorem mustE_bad {ps : List ByteArray} {fs : List Fa} {f : Fa} (h : mustE ps fs f ≠ 0) : mustV ps fs f = false ∧ (mustE ps fs f = 3 ∨ mustE ps fs f = 100 ∨ mustE ps fs f = 101) := by
  rcases checkF_cases ps fs with hc | hc | ⟨hc, _⟩
  · unfold mustE mustV; rw [hc]; exact ⟨rfl, .inl rfl⟩
  · unfold mustE mustV; rw [hc]; exact ⟨rfl, .inr (.inl rfl)⟩
  · have e1 : mustE ps fs f = if aboutB ps f then contraryF ps fs else 100 := by unfold mustE; rw [hc, if_neg (fun q => q rfl)]
    have e2 : mustV ps fs f = (aboutB ps f && mustF ps fs f) := by unfold mustV; rw [hc]; rfl
    rw [e1] at h ⊢
    rw [e2]
    cases ha : aboutB ps f with
    | false => exact ⟨rfl, .inr (.inl rfl)⟩
    | true =>
      cases hs : solveF ps fs with
      | none => exact ⟨by rw [must_none hs]; rfl, .inr (.inr (by rw [if_pos rfl, contrary_none hs]))⟩
      | some D => rw [ha, if_pos rfl, contrary_some hs] at h; exact absurd rfl h
theorem mustE_good {ps : List ByteArray} {fs : List Fa} {f : Fa} (h : mustE ps fs f = 0) : checkF ps fs = 0 ∧ aboutB ps f = true ∧ ∃ D, solveF ps fs = some D ∧ mustV ps fs f = mustB D ps f := by
  unfold mustE mustV at *
  by_cases hc : checkF ps fs = 0
  · rw [hc, if_neg (fun q => q rfl)] at h
    cases ha : aboutB ps f with
    | false => rw [ha] at h; cases h
    | true =>
      rw [ha, if_pos rfl] at h
      cases hs : solveF ps fs with
      | none => rw [contrary_none hs] at h; cases h
      | some D => exact ⟨hc, rfl, D, rfl, by rw [hc, must_some hs]; rfl⟩
  · rw [if_pos hc] at h
    exact absurd h hc
theorem mustV_ok {ps : List ByteArray} {fs : List Fa} {f : Fa} {D : Mat} (hc : checkF ps fs = 0) (ha : aboutB ps f = true) (hs : solveF ps fs = some D) : mustV ps fs f = mustB D ps f ∧ mustE ps fs f = 0 := by
  unfold mustE mustV
  rw [hc, ha, must_some hs, contrary_some hs]
  exact ⟨rfl, rfl⟩
theorem mayB_ok {ps : List ByteArray} {fs : List Fa} {f : Fa} (hc : checkF ps fs = 0) (ha : aboutB ps f = true) : mayB ps fs f = (solveF ps (fs ++ [f])).isSome ∧ factE ps fs f = 0 := by
  unfold mayB factE
  rw [hc, ha]
  exact ⟨rfl, rfl⟩
theorem about_turn {ps : List ByteArray} {k t : Int} {a b : ByteArray} (hk : k = 3) (h : aboutB ps ⟨k, a, b, t⟩ = true) : aboutB ps ⟨3, a, b, 0⟩ = true ∧ aboutB ps ⟨3, b, a, 0⟩ = true ∧ t = 0 := by
  obtain ⟨h1, h2, h3, h4⟩ := aboutB_iff.1 h
  simp only at h1 h2 h3 h4
  obtain ⟨g1, g2, g3⟩ := h3 (by omega)
  exact ⟨aboutB_iff.2 ⟨by simp only; omega, h2, fun _ => ⟨g1, g2, rfl⟩, fun q => absurd (by simp only; omega) q⟩, aboutB_iff.2 ⟨by simp only; omega, g2, fun _ => ⟨Ne.symm g1, h2, rfl⟩, fun q => absurd (by simp only; omega) q⟩, g3⟩
set_option maxRecDepth 100000 in
set_option maxHeartbeats 8000000 in
theorem mustMay_bad (r : Int) (hr : r = 3 ∨ r = 100 ∨ r = 101) (A : Option Addr) (c : Nat) (F : Option Addr) (d : Nat) (Ab : Option Addr) (nb cb : Nat) (Ad : Option Addr) (nd cd : Nat) (k : Int) (a b : ByteArray) (t : Int) (ps : List ByteArray) (fs : List Fa) (w : World) (h : NetC w A ps.length c F fs.length d ps fs) (hs : Short ps) (hz : Zw w) (hv : mustV ps fs ⟨k, a, b, t⟩ = false) (he : mustE ps fs ⟨k, a, b, t⟩ = r) :
    Calls Tryd.prog 7 #[.agg #[.slice A ps.length c, .slice F fs.length d], .agg #[.int .i64 k, .string a, .string b, .int .i64 t], .agg #[.slice Ab nb cb, .slice Ad nd cd]] w fun e w' => e = .returned (.bool true) ∧ Below w.heap.size w w' := by
  have hb0 := ((below_alloc' w (.cells #[.slice A ps.length c, .slice F fs.length d] 25)).alloc (by simp) (.cells #[.int .i64 k, .string a, .string b, .int .i64 t] 40)).alloc (by simp; omega) (.cells #[.slice Ab nb cb, .slice Ad nd cd] 45)
  have y0 := ((Cel.new w 25 #[.slice A ps.length c, .slice F fs.length d]).alloc (.cells #[.int .i64 k, .string a, .string b, .int .i64 t] 40)).alloc (.cells #[.slice Ab nb cb, .slice Ad nd cd] 45)
  have y1 := (Cel.new (w.alloc (.cells #[.slice A ps.length c, .slice F fs.length d] 25)) 40 #[.int .i64 k, .string a, .string b, .int .i64 t]).alloc (.cells #[.slice Ab nb cb, .slice Ad nd cd] 45)
  have y2 := Cel.new ((w.alloc (.cells #[.slice A ps.length c, .slice F fs.length d] 25)).alloc (.cells #[.int .i64 k, .string a, .string b, .int .i64 t] 40)) 45 #[.slice Ab nb cb, .slice Ad nd cd]
  simp only [World.size_alloc] at y1 y2
  obtain ⟨W, hW⟩ : ∃ W, (((w.alloc (.cells #[.slice A ps.length c, .slice F fs.length d] 25)).alloc (.cells #[.int .i64 k, .string a, .string b, .int .i64 t] 40)).alloc (.cells #[.slice Ab nb cb, .slice Ad nd cd] 45)) = W := ⟨_, rfl⟩
  rw [hW] at hb0 y0 y1 y2
  have HB0 := Lib.hid hb0
  have HY0 := Lib.hid y0
  have HY1 := Lib.hid y1
  have HY2 := Lib.hid y2
  have HN := Lib.hid h
  have HZ := Lib.hid hz
  have HWk := Lib.hid (fun w' hb => works_any w' (hz.below hb))
  have HMu := Lib.hid (fun w' (hw : Below w.heap.size w w') => pMust_any A ps.length c F fs.length d ps fs ⟨k, a, b, t⟩ w' (h.below hw) hs)
  have HMa := Lib.hid (fun w' (hw : Below w.heap.size w w') => may_any A ps.length c F fs.length d ps fs ⟨k, a, b, t⟩ w' (h.below hw) hs)
  unfold faA at HMu HMa
  simp only at HMu HMa
  have z0 := y0.cell 0 _ rfl
  have z1 := y0.cell 1 _ rfl
  have f0 := y1.cell 0 _ rfl
  have f1 := y1.cell 1 _ rfl
  have f2 := y1.cell 2 _ rfl
  have f3 := y1.cell 3 _ rfl
  rw [hv, he] at HMu
  clear h hs hz hb0 y0 y1 y2 hv he
  generalize mayB ps fs ⟨k, a, b, t⟩ = mb at *
  generalize factE ps fs ⟨k, a, b, t⟩ = fe at *
  rcases hr with rfl | rfl | rfl
  all_goals
    go_enter Tryd.func7, Tryd.ntmps7
    go_wp2_with fail
    refine (HMu.out _ HB0.out).mono ?_
    rintro e w1 ⟨rfl, hb1⟩
    clear z0 z1 f0 f1 f2 f3
    have HB1 := Lib.hid (HB0.out.trans (hb1.mono HB0.out.size))
    replace HY0 := Lib.hid (HY0.out.below HY0.out.lt hb1)
    replace HY1 := Lib.hid (HY1.out.below HY1.out.lt hb1)
    replace HY2 := Lib.hid (HY2.out.below HY2.out.lt hb1)
    have z0 := HY0.out.cell 0 _ rfl
    have z1 := HY0.out.cell 1 _ rfl
    have f0 := HY1.out.cell 0 _ rfl
    have f1 := HY1.out.cell 1 _ rfl
    have f2 := HY1.out.cell 2 _ rfl
    have f3 := HY1.out.cell 3 _ rfl
    have x0 := HY2.out.cell 0 _ rfl
    have x1 := HY2.out.cell 1 _ rfl
    clear hb1
    go_wp2_with fail
    clear z0 z1 f0 f1 f2 f3 x0 x1
    refine (HMa.out _ HB1.out).mono ?_
    rintro e w2 ⟨rfl, hb2⟩
    have HB2 := Lib.hid (HB1.out.trans (hb2.mono HB1.out.size))
    replace HY0 := Lib.hid (HY0.out.below HY0.out.lt hb2)
    replace HY1 := Lib.hid (HY1.out.below HY1.out.lt hb2)
    replace HY2 := Lib.hid (HY2.out.below HY2.out.lt hb2)
    have z0 := HY0.out.cell 0 _ rfl
    have z1 := HY0.out.cell 1 _ rfl
    have f0 := HY1.out.cell 0 _ rfl
    have f1 := HY1.out.cell 1 _ rfl
    have f2 := HY1.out.cell 2 _ rfl
    have f3 := HY1.out.cell 3 _ rfl
    have x0 := HY2.out.cell 0 _ rfl
    have x1 := HY2.out.cell 1 _ rfl
    clear hb2
    go_wp2_with fail
    refine (HWk.out _ HB2.out).mono ?_
    rintro e wz ⟨rfl, hbz⟩
    have HBz := Lib.hid (HB2.out.trans (hbz.mono HB2.out.size))
    clear hbz
    go_wp2
    go_ret
    exact ⟨rfl, HBz.out⟩
set_option maxRecDepth 100000 in
set_option maxHeartbeats 8000000 in
theorem mustMay_good (A : Option Addr) (c : Nat) (F : Option Addr) (d : Nat) (Ab : Option Addr) (nb cb : Nat) (Ad : Option Addr) (nd cd : Nat) (k : Int) (a b : ByteArray) (t : Int) (ps : List ByteArray) (fs : List Fa) (bs ds : List Int) (w : World) (h : NetC w A ps.length c F fs.length d ps fs) (hs : Short ps) (hb : Sl w 1 (.slice Ab nb cb) (bs.map (Value.int .i64))) (hd : Sl w 1 (.slice Ad nd cd) (ds.map (Value.int .i64))) (hz : Zw w) (hc : checkF ps fs = 0) (hp : ps.length ≤ 24) (hf : AllAbout ps fs) (ha : aboutB ps ⟨k, a, b, t⟩ = true) (D : Mat) (hq : solveF ps fs = some D) :
    Calls Tryd.prog 7 #[.agg #[.slice A ps.length c, .slice F fs.length d], .agg #[.int .i64 k, .string a, .string b, .int .i64 t], .agg #[.slice Ab nb cb, .slice Ad nd cd]] w fun e w' => e = .returned (.bool true) ∧ Below w.heap.size w w' := by
  have hb0 := ((below_alloc' w (.cells #[.slice A ps.length c, .slice F fs.length d] 25)).alloc (by simp) (.cells #[.int .i64 k, .string a, .string b, .int .i64 t] 40)).alloc (by simp; omega) (.cells #[.slice Ab nb cb, .slice Ad nd cd] 45)
  have y0 := ((Cel.new w 25 #[.slice A ps.length c, .slice F fs.length d]).alloc (.cells #[.int .i64 k, .string a, .string b, .int .i64 t] 40)).alloc (.cells #[.slice Ab nb cb, .slice Ad nd cd] 45)
  have y1 := (Cel.new (w.alloc (.cells #[.slice A ps.length c, .slice F fs.length d] 25)) 40 #[.int .i64 k, .string a, .string b, .int .i64 t]).alloc (.cells #[.slice Ab nb cb, .slice Ad nd cd] 45)
  have y2 := Cel.new ((w.alloc (.cells #[.slice A ps.length c, .slice F fs.length d] 25)).alloc (.cells #[.int .i64 k, .string a, .string b, .int .i64 t] 40)) 45 #[.slice Ab nb cb, .slice Ad nd cd]
  simp only [World.size_alloc] at y1 y2
  obtain ⟨W, hW⟩ : ∃ W, (((w.alloc (.cells #[.slice A ps.length c, .slice F fs.length d] 25)).alloc (.cells #[.int .i64 k, .string a, .string b, .int .i64 t] 40)).alloc (.cells #[.slice Ab nb cb, .slice Ad nd cd] 45)) = W := ⟨_, rfl⟩
  rw [hW] at hb0 y0 y1 y2
  have HB0 := Lib.hid hb0
  have HY0 := Lib.hid y0
  have HY1 := Lib.hid y1
  have HY2 := Lib.hid y2
  have HN := Lib.hid h
  have HZ := Lib.hid hz
  have HWk := Lib.hid (fun w' hb => works_any w' (hz.below hb))
  have HMu := Lib.hid (fun w' (hw : Below w.heap.size w w') => pMust_any A ps.length c F fs.length d ps fs ⟨k, a, b, t⟩ w' (h.below hw) hs)
  have HMa := Lib.hid (fun w' (hw : Below w.heap.size w w') => may_any A ps.length c F fs.length d ps fs ⟨k, a, b, t⟩ w' (h.below hw) hs)
  unfold faA at HMu HMa
  simp only at HMu HMa
  have z0 := y0.cell 0 _ rfl
  have z1 := y0.cell 1 _ rfl
  have f0 := y1.cell 0 _ rfl
  have f1 := y1.cell 1 _ rfl
  have f2 := y1.cell 2 _ rfl
  have f3 := y1.cell 3 _ rfl
  rw [(mustV_ok hc ha hq).1, (mustV_ok hc ha hq).2] at HMu
  rw [(mayB_ok hc ha).1, (mayB_ok hc ha).2] at HMa
  have HSo := Lib.hid (fun w' (hw : Below w.heap.size w w') => solves_any A ps.length c F fs.length d (.slice Ab nb cb) (.slice Ad nd cd) ps fs bs ds w' (h.below hw) hf hp (hb.below hw) (hd.below hw))
  have HMe : Hid (solvesB ps fs bs ds = true → ∀ w', Below w.heap.size w w' → Calls Tryd.prog 30 #[.slice A ps.length c, .agg #[.slice Ab nb cb, .slice Ad nd cd], .agg #[.int .i64 k, .string a, .string b, .int .i64 t]] w' fun e w'' => e = .returned (.bool (meetsB ps bs ds ⟨k, a, b, t⟩)) ∧ Below w'.heap.size w' w'') := Lib.hid (fun q w' hw => by
    have q1 := ((solvesB_iff hp).1 q).1
    have q2 : ∀ i, i < ps.length → yOk bs ds i = true := by
      unfold solvesB at q
      rw [Bool.and_eq_true, Bool.and_eq_true, all_range] at q
      exact q.2.1
    exact meets_any (.slice A ps.length c) (.slice Ab nb cb) (.slice Ad nd cd) ps bs ds ⟨k, a, b, t⟩ w' (h.people.below hw) (hb.below hw) (hd.below hw) q1.1 q1.2 hp ha q2)
  have HFact : Hid (∀ f ∈ fs, ∀ w', Below w.heap.size w w' → Calls Tryd.prog 25 #[.agg #[.slice A ps.length c, .slice F fs.length d], .agg #[.int .i64 f.kind, .string f.a, .string f.b, .int .i64 f.at_]] w' fun e w'' => e = .returned (.tuple #[.bool true, .int .i64 0]) ∧ Below w'.heap.size w' w'') := Lib.hid (fun f hm w' hw => by
    have := pMust_any A ps.length c F fs.length d ps fs f w' (h.below hw) hs
    rw [(mustV_ok hc (hf f hm) hq).1, (mustV_ok hc (hf f hm) hq).2, must_own hp hf hq hm] at this
    exact this)
  have HTurn : Hid (k = 3 → solveF ps (fs ++ [⟨k, a, b, t⟩]) = none → ∀ w', Below w.heap.size w w' → Calls Tryd.prog 25 #[.agg #[.slice A ps.length c, .slice F fs.length d], .agg #[.int .i64 3, .string b, .string a, .int .i64 0]] w' fun e w'' => e = .returned (.tuple #[.bool true, .int .i64 0]) ∧ Below w'.heap.size w' w'') := Lib.hid (fun hk hn w' hw => by
    obtain ⟨t1, t2, t3⟩ := about_turn hk ha
    subst hk
    subst t3
    have := pMust_any A ps.length c F fs.length d ps fs ⟨3, b, a, 0⟩ w' (h.below hw) hs
    rw [(mustV_ok hc t2 hq).1, (mustV_ok hc t2 hq).2, must_turned hq hn] at this
    exact this)
  have HFc := Lib.hid (fun q => h.fact q)
  have L1 := Lib.hid (fun (q : mustB D ps ⟨k, a, b, t⟩ = true) => must_may hp hf ha hq q)
  have L2 : Hid (solvesB ps fs bs ds = true → mustB D ps ⟨k, a, b, t⟩ = true → meetsB ps bs ds ⟨k, a, b, t⟩ = true) := Lib.hid (fun q g => satB_iff.2 (must_sat rfl ha g ((solveF_sol hp hf hq _).2 ((solvesB_iff hp).1 q).2)))
  obtain ⟨_, _, _, hm2, _, hm4⟩ := h.many
  have L3 : Hid (solvesB ps fs bs ds = true → solveF ps (fs ++ [⟨k, a, b, t⟩]) = none → meetsB ps bs ds ⟨k, a, b, t⟩ = false) := Lib.hid (fun q g => Bool.eq_false_iff.2 fun e => may_sat hp hf ha hq g ((solveF_sol hp hf hq _).2 ((solvesB_iff hp).1 q).2) (satB_iff.1 e))
  have L4 : Hid ((solveF ps (fs ++ [⟨k, a, b, t⟩])).isSome = false → solveF ps (fs ++ [⟨k, a, b, t⟩]) = none) := Lib.hid none_of
  clear h hs hb hd hz hb0 y0 y1 y2 hc hp hf ha hq
  go_enter Tryd.func7, Tryd.ntmps7
  go_wp2_with fail
  refine (HMu.out _ HB0.out).mono ?_
  rintro e w1 ⟨rfl, hb1⟩
  clear z0 z1 f0 f1 f2 f3
  have HB1 := Lib.hid (HB0.out.trans (hb1.mono HB0.out.size))
  replace HY0 := Lib.hid (HY0.out.below HY0.out.lt hb1)
  replace HY1 := Lib.hid (HY1.out.below HY1.out.lt hb1)
  replace HY2 := Lib.hid (HY2.out.below HY2.out.lt hb1)
  have z0 := HY0.out.cell 0 _ rfl
  have z1 := HY0.out.cell 1 _ rfl
  have f0 := HY1.out.cell 0 _ rfl
  have f1 := HY1.out.cell 1 _ rfl
  have f2 := HY1.out.cell 2 _ rfl
  have f3 := HY1.out.cell 3 _ rfl
  have x0 := HY2.out.cell 0 _ rfl
  have x1 := HY2.out.cell 1 _ rfl
  clear hb1
  go_wp2_with fail
  clear z0 z1 f0 f1 f2 f3 x0 x1
  refine (HMa.out _ HB1.out).mono ?_
  rintro e w2 ⟨rfl, hb2⟩
  have HB2 := Lib.hid (HB1.out.trans (hb2.mono HB1.out.size))
  replace HY0 := Lib.hid (HY0.out.below HY0.out.lt hb2)
  replace HY1 := Lib.hid (HY1.out.below HY1.out.lt hb2)
  replace HY2 := Lib.hid (HY2.out.below HY2.out.lt hb2)
  have z0 := HY0.out.cell 0 _ rfl
  have z1 := HY0.out.cell 1 _ rfl
  have f0 := HY1.out.cell 0 _ rfl
  have f1 := HY1.out.cell 1 _ rfl
  have f2 := HY1.out.cell 2 _ rfl
  have f3 := HY1.out.cell 3 _ rfl
  have x0 := HY2.out.cell 0 _ rfl
  have x1 := HY2.out.cell 1 _ rfl
  clear hb2
  clear HMu HMa
  go_upto_region 5 with fail
  generalize hmu : mustB D ps ⟨k, a, b, t⟩ = mu at *
  generalize hma : (solveF ps (fs ++ [⟨k, a, b, t⟩])).isSome = ma at *
  generalize hown : solvesB ps fs bs ds = own at *
  generalize hme : meetsB ps bs ds ⟨k, a, b, t⟩ = me at *
  have L34 : Hid (own = true → ma = false → me = false) := Lib.hid (fun q g => L3.out q (L4.out g))
  have HTu := Lib.hid (fun (hk : k = 3) (g : ma = false) => HTurn.out hk (L4.out g))
  clear hmu hma hown hme L3 L4 HTurn
  go_cut [75] (fun t75 wx => ∃ Wc : World, Wc = wx ∧ t75 = .bool false ∧ Below w2.heap.size w2 Wc)
  case first =>
    clear HFact HTu HFc HWk HN HZ
    cases mu with
    | true =>
      obtain rfl : ma = true := L1.out (by trivial)
      cases own with
      | true =>
        obtain rfl : me = true := L2.out (by trivial) (by trivial)
        have HBx2 := Lib.hid (show Below w2.heap.size w2 w2 from Below.refl _ _)
        go_wp2_with fail
        clear z0 z1 f0 f1 f2 f3 x0 x1
        refine (HSo.out _ (HB2.out.trans (HBx2.out.mono HB2.out.size))).mono ?_
        rintro e w3 ⟨rfl, hb3⟩
        have HBx3 := Lib.hid (HBx2.out.trans (hb3.mono HBx2.out.size))
        replace HY0 := Lib.hid (HY0.out.below HY0.out.lt hb3)
        replace HY1 := Lib.hid (HY1.out.below HY1.out.lt hb3)
        replace HY2 := Lib.hid (HY2.out.below HY2.out.lt hb3)
        have z0 := HY0.out.cell 0 _ rfl
        have z1 := HY0.out.cell 1 _ rfl
        have f0 := HY1.out.cell 0 _ rfl
        have f1 := HY1.out.cell 1 _ rfl
        have f2 := HY1.out.cell 2 _ rfl
        have f3 := HY1.out.cell 3 _ rfl
        have x0 := HY2.out.cell 0 _ rfl
        have x1 := HY2.out.cell 1 _ rfl
        clear hb3
        go_wp2_with fail
        clear z0 z1 f0 f1 f2 f3 x0 x1
        refine (HMe.out (by trivial) _ (HB2.out.trans (HBx3.out.mono HB2.out.size))).mono ?_
        rintro e w4 ⟨rfl, hb4⟩
        have HBx4 := Lib.hid (HBx3.out.trans (hb4.mono HBx3.out.size))
        replace HY0 := Lib.hid (HY0.out.below HY0.out.lt hb4)
        replace HY1 := Lib.hid (HY1.out.below HY1.out.lt hb4)
        replace HY2 := Lib.hid (HY2.out.below HY2.out.lt hb4)
        have z0 := HY0.out.cell 0 _ rfl
        have z1 := HY0.out.cell 1 _ rfl
        have f0 := HY1.out.cell 0 _ rfl
        have f1 := HY1.out.cell 1 _ rfl
        have f2 := HY1.out.cell 2 _ rfl
        have f3 := HY1.out.cell 3 _ rfl
        have x0 := HY2.out.cell 0 _ rfl
        have x1 := HY2.out.cell 1 _ rfl
        clear hb4
        go_wp2_with fail
        clear z0 z1 f0 f1 f2 f3 x0 x1
        refine (HSo.out _ (HB2.out.trans (HBx4.out.mono HB2.out.size))).mono ?_
        rintro e w5 ⟨rfl, hb5⟩
        have HBx5 := Lib.hid (HBx4.out.trans (hb5.mono HBx4.out.size))
        replace HY0 := Lib.hid (HY0.out.below HY0.out.lt hb5)
        replace HY1 := Lib.hid (HY1.out.below HY1.out.lt hb5)
        replace HY2 := Lib.hid (HY2.out.below HY2.out.lt hb5)
        have z0 := HY0.out.cell 0 _ rfl
        have z1 := HY0.out.cell 1 _ rfl
        have f0 := HY1.out.cell 0 _ rfl
        have f1 := HY1.out.cell 1 _ rfl
        have f2 := HY1.out.cell 2 _ rfl
        have f3 := HY1.out.cell 3 _ rfl
        have x0 := HY2.out.cell 0 _ rfl
        have x1 := HY2.out.cell 1 _ rfl
        clear hb5
        go_wp2
        go_meet
        exact ⟨_, rfl, rfl, HBx5.out⟩
      | false =>
        have HBx2 := Lib.hid (show Below w2.heap.size w2 w2 from Below.refl _ _)
        go_wp2_with fail
        clear z0 z1 f0 f1 f2 f3 x0 x1
        refine (HSo.out _ (HB2.out.trans (HBx2.out.mono HB2.out.size))).mono ?_
        rintro e w3 ⟨rfl, hb3⟩
        have HBx3 := Lib.hid (HBx2.out.trans (hb3.mono HBx2.out.size))
        replace HY0 := Lib.hid (HY0.out.below HY0.out.lt hb3)
        replace HY1 := Lib.hid (HY1.out.below HY1.out.lt hb3)
        replace HY2 := Lib.hid (HY2.out.below HY2.out.lt hb3)
        have z0 := HY0.out.cell 0 _ rfl
        have z1 := HY0.out.cell 1 _ rfl
        have f0 := HY1.out.cell 0 _ rfl
        have f1 := HY1.out.cell 1 _ rfl
        have f2 := HY1.out.cell 2 _ rfl
        have f3 := HY1.out.cell 3 _ rfl
        have x0 := HY2.out.cell 0 _ rfl
        have x1 := HY2.out.cell 1 _ rfl
        clear hb3
        go_wp2_with fail
        clear z0 z1 f0 f1 f2 f3 x0 x1
        refine (HSo.out _ (HB2.out.trans (HBx3.out.mono HB2.out.size))).mono ?_
        rintro e w4 ⟨rfl, hb4⟩
        have HBx4 := Lib.hid (HBx3.out.trans (hb4.mono HBx3.out.size))
        replace HY0 := Lib.hid (HY0.out.below HY0.out.lt hb4)
        replace HY1 := Lib.hid (HY1.out.below HY1.out.lt hb4)
        replace HY2 := Lib.hid (HY2.out.below HY2.out.lt hb4)
        have z0 := HY0.out.cell 0 _ rfl
        have z1 := HY0.out.cell 1 _ rfl
        have f0 := HY1.out.cell 0 _ rfl
        have f1 := HY1.out.cell 1 _ rfl
        have f2 := HY1.out.cell 2 _ rfl
        have f3 := HY1.out.cell 3 _ rfl
        have x0 := HY2.out.cell 0 _ rfl
        have x1 := HY2.out.cell 1 _ rfl
        clear hb4
        go_wp2
        go_meet
        exact ⟨_, rfl, rfl, HBx4.out⟩
    | false =>
      cases ma with
      | true =>
        cases own with
        | true =>
          have HBx2 := Lib.hid (show Below w2.heap.size w2 w2 from Below.refl _ _)
          go_wp2_with fail
          clear z0 z1 f0 f1 f2 f3 x0 x1
          refine (HSo.out _ (HB2.out.trans (HBx2.out.mono HB2.out.size))).mono ?_
          rintro e w3 ⟨rfl, hb3⟩
          have HBx3 := Lib.hid (HBx2.out.trans (hb3.mono HBx2.out.size))
          replace HY0 := Lib.hid (HY0.out.below HY0.out.lt hb3)
          replace HY1 := Lib.hid (HY1.out.below HY1.out.lt hb3)
          replace HY2 := Lib.hid (HY2.out.below HY2.out.lt hb3)
          have z0 := HY0.out.cell 0 _ rfl
          have z1 := HY0.out.cell 1 _ rfl
          have f0 := HY1.out.cell 0 _ rfl
          have f1 := HY1.out.cell 1 _ rfl
          have f2 := HY1.out.cell 2 _ rfl
          have f3 := HY1.out.cell 3 _ rfl
          have x0 := HY2.out.cell 0 _ rfl
          have x1 := HY2.out.cell 1 _ rfl
          clear hb3
          go_wp2_with fail
          clear z0 z1 f0 f1 f2 f3 x0 x1
          refine (HSo.out _ (HB2.out.trans (HBx3.out.mono HB2.out.size))).mono ?_
          rintro e w4 ⟨rfl, hb4⟩
          have HBx4 := Lib.hid (HBx3.out.trans (hb4.mono HBx3.out.size))
          replace HY0 := Lib.hid (HY0.out.below HY0.out.lt hb4)
          replace HY1 := Lib.hid (HY1.out.below HY1.out.lt hb4)
          replace HY2 := Lib.hid (HY2.out.below HY2.out.lt hb4)
          have z0 := HY0.out.cell 0 _ rfl
          have z1 := HY0.out.cell 1 _ rfl
          have f0 := HY1.out.cell 0 _ rfl
          have f1 := HY1.out.cell 1 _ rfl
          have f2 := HY1.out.cell 2 _ rfl
          have f3 := HY1.out.cell 3 _ rfl
          have x0 := HY2.out.cell 0 _ rfl
          have x1 := HY2.out.cell 1 _ rfl
          clear hb4
          go_wp2
          go_meet
          exact ⟨_, rfl, rfl, HBx4.out⟩
        | false =>
          have HBx2 := Lib.hid (show Below w2.heap.size w2 w2 from Below.refl _ _)
          go_wp2_with fail
          clear z0 z1 f0 f1 f2 f3 x0 x1
          refine (HSo.out _ (HB2.out.trans (HBx2.out.mono HB2.out.size))).mono ?_
          rintro e w3 ⟨rfl, hb3⟩
          have HBx3 := Lib.hid (HBx2.out.trans (hb3.mono HBx2.out.size))
          replace HY0 := Lib.hid (HY0.out.below HY0.out.lt hb3)
          replace HY1 := Lib.hid (HY1.out.below HY1.out.lt hb3)
          replace HY2 := Lib.hid (HY2.out.below HY2.out.lt hb3)
          have z0 := HY0.out.cell 0 _ rfl
          have z1 := HY0.out.cell 1 _ rfl
          have f0 := HY1.out.cell 0 _ rfl
          have f1 := HY1.out.cell 1 _ rfl
          have f2 := HY1.out.cell 2 _ rfl
          have f3 := HY1.out.cell 3 _ rfl
          have x0 := HY2.out.cell 0 _ rfl
          have x1 := HY2.out.cell 1 _ rfl
          clear hb3
          go_wp2_with fail
          clear z0 z1 f0 f1 f2 f3 x0 x1
          refine (HSo.out _ (HB2.out.trans (HBx3.out.mono HB2.out.size))).mono ?_
          rintro e w4 ⟨rfl, hb4⟩
          have HBx4 := Lib.hid (HBx3.out.trans (hb4.mono HBx3.out.size))
          replace HY0 := Lib.hid (HY0.out.below HY0.out.lt hb4)
          replace HY1 := Lib.hid (HY1.out.below HY1.out.lt hb4)
          replace HY2 := Lib.hid (HY2.out.below HY2.out.lt hb4)
          have z0 := HY0.out.cell 0 _ rfl
          have z1 := HY0.out.cell 1 _ rfl
          have f0 := HY1.out.cell 0 _ rfl
          have f1 := HY1.out.cell 1 _ rfl
          have f2 := HY1.out.cell 2 _ rfl
          have f3 := HY1.out.cell 3 _ rfl
          have x0 := HY2.out.cell 0 _ rfl
          have x1 := HY2.out.cell 1 _ rfl
          clear hb4
          go_wp2
          go_meet
          exact ⟨_, rfl, rfl, HBx4.out⟩
      | false =>
        cases own with
        | true =>
          obtain rfl : me = false := L34.out (by trivial) (by trivial)
          have HBx2 := Lib.hid (show Below w2.heap.size w2 w2 from Below.refl _ _)
          go_wp2_with fail
          clear z0 z1 f0 f1 f2 f3 x0 x1
          refine (HSo.out _ (HB2.out.trans (HBx2.out.mono HB2.out.size))).mono ?_
          rintro e w3 ⟨rfl, hb3⟩
          have HBx3 := Lib.hid (HBx2.out.trans (hb3.mono HBx2.out.size))
          replace HY0 := Lib.hid (HY0.out.below HY0.out.lt hb3)
          replace HY1 := Lib.hid (HY1.out.below HY1.out.lt hb3)
          replace HY2 := Lib.hid (HY2.out.below HY2.out.lt hb3)
          have z0 := HY0.out.cell 0 _ rfl
          have z1 := HY0.out.cell 1 _ rfl
          have f0 := HY1.out.cell 0 _ rfl
          have f1 := HY1.out.cell 1 _ rfl
          have f2 := HY1.out.cell 2 _ rfl
          have f3 := HY1.out.cell 3 _ rfl
          have x0 := HY2.out.cell 0 _ rfl
          have x1 := HY2.out.cell 1 _ rfl
          clear hb3
          go_wp2_with fail
          clear z0 z1 f0 f1 f2 f3 x0 x1
          refine (HSo.out _ (HB2.out.trans (HBx3.out.mono HB2.out.size))).mono ?_
          rintro e w4 ⟨rfl, hb4⟩
          have HBx4 := Lib.hid (HBx3.out.trans (hb4.mono HBx3.out.size))
          replace HY0 := Lib.hid (HY0.out.below HY0.out.lt hb4)
          replace HY1 := Lib.hid (HY1.out.below HY1.out.lt hb4)
          replace HY2 := Lib.hid (HY2.out.below HY2.out.lt hb4)
          have z0 := HY0.out.cell 0 _ rfl
          have z1 := HY0.out.cell 1 _ rfl
          have f0 := HY1.out.cell 0 _ rfl
          have f1 := HY1.out.cell 1 _ rfl
          have f2 := HY1.out.cell 2 _ rfl
          have f3 := HY1.out.cell 3 _ rfl
          have x0 := HY2.out.cell 0 _ rfl
          have x1 := HY2.out.cell 1 _ rfl
          clear hb4
          go_wp2_with fail
          clear z0 z1 f0 f1 f2 f3 x0 x1
          refine (HMe.out (by trivial) _ (HB2.out.trans (HBx4.out.mono HB2.out.size))).mono ?_
          rintro e w5 ⟨rfl, hb5⟩
          have HBx5 := Lib.hid (HBx4.out.trans (hb5.mono HBx4.out.size))
          replace HY0 := Lib.hid (HY0.out.below HY0.out.lt hb5)
          replace HY1 := Lib.hid (HY1.out.below HY1.out.lt hb5)
          replace HY2 := Lib.hid (HY2.out.below HY2.out.lt hb5)
          have z0 := HY0.out.cell 0 _ rfl
          have z1 := HY0.out.cell 1 _ rfl
          have f0 := HY1.out.cell 0 _ rfl
          have f1 := HY1.out.cell 1 _ rfl
          have f2 := HY1.out.cell 2 _ rfl
          have f3 := HY1.out.cell 3 _ rfl
          have x0 := HY2.out.cell 0 _ rfl
          have x1 := HY2.out.cell 1 _ rfl
          clear hb5
          go_wp2
          go_meet
          exact ⟨_, rfl, rfl, HBx5.out⟩
        | false =>
          have HBx2 := Lib.hid (show Below w2.heap.size w2 w2 from Below.refl _ _)
          go_wp2_with fail
          clear z0 z1 f0 f1 f2 f3 x0 x1
          refine (HSo.out _ (HB2.out.trans (HBx2.out.mono HB2.out.size))).mono ?_
          rintro e w3 ⟨rfl, hb3⟩
          have HBx3 := Lib.hid (HBx2.out.trans (hb3.mono HBx2.out.size))
          replace HY0 := Lib.hid (HY0.out.below HY0.out.lt hb3)
          replace HY1 := Lib.hid (HY1.out.below HY1.out.lt hb3)
          replace HY2 := Lib.hid (HY2.out.below HY2.out.lt hb3)
          have z0 := HY0.out.cell 0 _ rfl
          have z1 := HY0.out.cell 1 _ rfl
          have f0 := HY1.out.cell 0 _ rfl
          have f1 := HY1.out.cell 1 _ rfl
          have f2 := HY1.out.cell 2 _ rfl
          have f3 := HY1.out.cell 3 _ rfl
          have x0 := HY2.out.cell 0 _ rfl
          have x1 := HY2.out.cell 1 _ rfl
          clear hb3
          go_wp2_with fail
          clear z0 z1 f0 f1 f2 f3 x0 x1
          refine (HSo.out _ (HB2.out.trans (HBx3.out.mono HB2.out.size))).mono ?_
          rintro e w4 ⟨rfl, hb4⟩
          have HBx4 := Lib.hid (HBx3.out.trans (hb4.mono HBx3.out.size))
          replace HY0 := Lib.hid (HY0.out.below HY0.out.lt hb4)
          replace HY1 := Lib.hid (HY1.out.below HY1.out.lt hb4)
          replace HY2 := Lib.hid (HY2.out.below HY2.out.lt hb4)
          have z0 := HY0.out.cell 0 _ rfl
          have z1 := HY0.out.cell 1 _ rfl
          have f0 := HY1.out.cell 0 _ rfl
          have f1 := HY1.out.cell 1 _ rfl
          have f2 := HY1.out.cell 2 _ rfl
          have f3 := HY1.out.cell 3 _ rfl
          have x0 := HY2.out.cell 0 _ rfl
          have x1 := HY2.out.cell 1 _ rfl
          clear hb4
          go_wp2
          go_meet
          exact ⟨_, rfl, rfl, HBx4.out⟩
  case rest =>
    obtain ⟨Wc, rfl, rfl, hBc⟩ := hcut
    clear z0 z1 f0 f1 f2 f3 x0 x1
    have HB3' := Lib.hid (HB2.out.trans (hBc.mono HB2.out.size))
    replace HY0 := Lib.hid (HY0.out.below HY0.out.lt hBc)
    replace HY1 := Lib.hid (HY1.out.below HY1.out.lt hBc)
    clear hBc HY2 HSo HMe L1 L2 L34
    go_wp2
    go_loopw [11] (fun ti wr => ∃ j : Nat, ti = .int .i64 j ∧ j ≤ fs.length ∧ Hid (Below w.heap.size w wr) ∧ Hid (Cel wr w.heap.size 25 #[.slice A ps.length c, .slice F fs.length d]) ∧ Hid (Cel wr (w.heap.size + 1) 40 #[.int .i64 k, .string a, .string b, .int .i64 t])) (fun ti _ => fs.length - (intOf ti).toNat)
    case atStart => exact ⟨0, rfl, by omega, HB3'.out, HY0.out, HY1.out⟩
    case round =>
      clear HB3' HY0 HY1
      obtain ⟨j, rfl, hj, HB3, HY0, HY1⟩ := hrel
      obtain ⟨wx, hwx⟩ : ∃ wx, wx = wr := ⟨_, rfl⟩
      rw [← hwx] at HB3 HY0 HY1 ⊢
      clear hwx
      have z0' := HY0.out.cell 0 _ rfl
      have z1' := HY0.out.cell 1 _ rfl
      by_cases hlj : j < fs.length
      · obtain ⟨b0, o0, rfl, _, hce⟩ := HFc.out (by omega)
        have hfj : fs[j]? = some fs[j] := List.getElem?_eq_getElem hlj
        obtain ⟨g1', g2', g3', g4'⟩ := hce j _ hfj
        replace g1' := below_cell HB3.out g1'
        replace g2' := below_cell HB3.out g2'
        replace g3' := below_cell HB3.out g3'
        replace g4' := below_cell HB3.out g4'
        have HM := Lib.hid (HFact.out fs[j] (List.getElem_mem hlj))
        clear hce hfj
        generalize fs[j] = f at *
        obtain ⟨fk, fa, fb, ft⟩ := f
        simp only at g1' g2' g3' g4' HM
        go_upto_region 10 with fail
        refine wp_region_held_drew (S := fun w' => Below wx.heap.size wx w') (by kernel_rfl) (below_drew (Below.refl _ _)) (fun hHeld => ?_)
        refine wpAnyH_takeD (i := 0) (v := ?_) 84 rfl (by kernel_rfl) (by kernel_rfl) (by kernel_rfl) (fun _ _ _ h => h) (Or.inl ⟨by rfl, ?_⟩) (by assumption) rfl ?_
        rotate_left
        · intro w' hSw
          have g1 := below_cell hSw g1'; have g2 := below_cell hSw g2'; have g3 := below_cell hSw g3'; have g4 := below_cell hSw g4'; have z0 := below_cell hSw z0'; have z1 := below_cell hSw z1'
          go_simp <;> with_reducible rfl
        simp only [List.setIfInBounds_toArray, List.set_cons_succ, List.set_cons_zero]
        refine wpAnyH_takeD (i := 1) (v := ?_) 85 rfl (by kernel_rfl) (by kernel_rfl) (by kernel_rfl) (fun _ _ _ h => h) (Or.inl ⟨by rfl, ?_⟩) (by assumption) rfl ?_
        rotate_left
        · intro w' hSw
          have g1 := below_cell hSw g1'; have g2 := below_cell hSw g2'; have g3 := below_cell hSw g3'; have g4 := below_cell hSw g4'; have z0 := below_cell hSw z0'; have z1 := below_cell hSw z1'
          go_simp <;> with_reducible rfl
        simp only [List.setIfInBounds_toArray, List.set_cons_succ, List.set_cons_zero]
        refine wpAnyH_takeD (i := 2) (v := ?_) 86 rfl (by kernel_rfl) (by kernel_rfl) (by kernel_rfl) (fun _ _ _ h => h) (Or.inl ⟨by rfl, ?_⟩) (by assumption) rfl ?_
        rotate_left
        · intro w' hSw
          have g1 := below_cell hSw g1'; have g2 := below_cell hSw g2'; have g3 := below_cell hSw g3'; have g4 := below_cell hSw g4'; have z0 := below_cell hSw z0'; have z1 := below_cell hSw z1'
          go_simp <;> with_reducible rfl
        simp only [List.setIfInBounds_toArray, List.set_cons_succ, List.set_cons_zero]
        refine wpAnyH_takeD (i := 3) (v := ?_) 87 rfl (by kernel_rfl) (by kernel_rfl) (by kernel_rfl) (fun _ _ _ h => h) (Or.inl ⟨by rfl, ?_⟩) (by assumption) rfl ?_
        rotate_left
        · intro w' hSw
          have g1 := below_cell hSw g1'; have g2 := below_cell hSw g2'; have g3 := below_cell hSw g3'; have g4 := below_cell hSw g4'; have z0 := below_cell hSw z0'; have z1 := below_cell hSw z1'
          go_simp <;> with_reducible rfl
        simp only [List.setIfInBounds_toArray, List.set_cons_succ, List.set_cons_zero]
        refine wpAnyH_takeD (i := 4) (v := ?_) 88 rfl (by kernel_rfl) (by kernel_rfl) (by kernel_rfl) (fun _ _ _ h => h) (Or.inl ⟨by rfl, ?_⟩) (by assumption) rfl ?_
        rotate_left
        · intro w' hSw
          have g1 := below_cell hSw g1'; have g2 := below_cell hSw g2'; have g3 := below_cell hSw g3'; have g4 := below_cell hSw g4'; have z0 := below_cell hSw z0'; have z1 := below_cell hSw z1'
          go_simp <;> with_reducible rfl
        simp only [List.setIfInBounds_toArray, List.set_cons_succ, List.set_cons_zero]
        refine wpAnyH_takeD (i := 5) (v := ?_) 89 rfl (by kernel_rfl) (by kernel_rfl) (by kernel_rfl) (fun _ _ _ h => h) (Or.inl ⟨by rfl, ?_⟩) (by assumption) rfl ?_
        rotate_left
        · intro w' hSw
          have g1 := below_cell hSw g1'; have g2 := below_cell hSw g2'; have g3 := below_cell hSw g3'; have g4 := below_cell hSw g4'; have z0 := below_cell hSw z0'; have z1 := below_cell hSw z1'
          go_simp <;> with_reducible rfl
        simp only [List.setIfInBounds_toArray, List.set_cons_succ, List.set_cons_zero]
        refine wpAnyH_ready (rs := [6]) (by kernel_rfl) (by simp) ?_
        refine AllReadyH.cons (o := _) rfl (fun K hK => ?_) AllReadyH.nil
        go_simp
        go_at_call 25
        refine (HM.out _ (HB3.out.trans (hHeld.mono HB3.out.size))).mono ?_
        rintro e w5 ⟨rfl, hb5⟩
        have HB5 := Lib.hid (hHeld.trans (hb5.mono hHeld.size))
        clear hb5
        refine hK.out _ _ HB5.out (fun hHeld5 => ?_)
        clear hK K
        refine wpAnyH_takeD (i := 7) (v := ?_) 83 rfl (by kernel_rfl) (by kernel_rfl) (by kernel_rfl) (fun _ _ _ h => h) (Or.inl ⟨by rfl, ?_⟩) (by assumption) rfl ?_
        rotate_left
        · intro w' hSw
          have g1 := below_cell hSw g1'; have g2 := below_cell hSw g2'; have g3 := below_cell hSw g3'; have g4 := below_cell hSw g4'; have z0 := below_cell hSw z0'; have z1 := below_cell hSw z1'
          go_simp <;> with_reducible rfl
        simp only [List.setIfInBounds_toArray, List.set_cons_succ, List.set_cons_zero]
        refine wpAnyH_takeD (i := 8) (v := ?_) 91 rfl (by kernel_rfl) (by kernel_rfl) (by kernel_rfl) (fun _ _ _ h => h) (Or.inl ⟨by rfl, ?_⟩) (by assumption) rfl ?_
        rotate_left
        · intro w' hSw
          have g1 := below_cell hSw g1'; have g2 := below_cell hSw g2'; have g3 := below_cell hSw g3'; have g4 := below_cell hSw g4'; have z0 := below_cell hSw z0'; have z1 := below_cell hSw z1'
          go_simp <;> with_reducible rfl
        simp only [List.setIfInBounds_toArray, List.set_cons_succ, List.set_cons_zero]
        refine wpAnyH_takeD (i := 9) (v := ?_) 92 rfl (by kernel_rfl) (by kernel_rfl) (by kernel_rfl) (fun _ _ _ h => h) (Or.inl ⟨by rfl, ?_⟩) (by assumption) rfl ?_
        rotate_left
        · intro w' hSw
          have g1 := below_cell hSw g1'; have g2 := below_cell hSw g2'; have g3 := below_cell hSw g3'; have g4 := below_cell hSw g4'; have z0 := below_cell hSw z0'; have z1 := below_cell hSw z1'
          go_simp <;> with_reducible rfl
        simp only [List.setIfInBounds_toArray, List.set_cons_succ, List.set_cons_zero]
        refine wpAnyH_takeD (i := 10) (v := ?_) 12 rfl (by kernel_rfl) (by kernel_rfl) (by kernel_rfl) (fun _ _ _ h => h) (Or.inl ⟨by rfl, ?_⟩) (by assumption) rfl ?_
        rotate_left
        · intro w' hSw
          have g1 := below_cell hSw g1'; have g2 := below_cell hSw g2'; have g3 := below_cell hSw g3'; have g4 := below_cell hSw g4'; have z0 := below_cell hSw z0'; have z1 := below_cell hSw z1'
          go_simp <;> with_reducible rfl
        simp only [List.setIfInBounds_toArray, List.set_cons_succ, List.set_cons_zero]
        refine wpAnyH_takeD (i := 11) (v := ?_) 13 rfl (by kernel_rfl) (by kernel_rfl) (by kernel_rfl) (fun _ _ _ h => h) (Or.inl ⟨by rfl, ?_⟩) (by assumption) rfl ?_
        rotate_left
        · intro w' hSw
          have g1 := below_cell hSw g1'; have g2 := below_cell hSw g2'; have g3 := below_cell hSw g3'; have g4 := below_cell hSw g4'; have z0 := below_cell hSw z0'; have z1 := below_cell hSw z1'
          go_simp <;> with_reducible rfl
        simp only [List.setIfInBounds_toArray, List.set_cons_succ, List.set_cons_zero]
        refine wpAnyH_done (by kernel_rfl) ?_ _
        go_wp2
        go_roundw
        case rel => exact ⟨j + 1, by go_num, by omega, HB3.out.trans (HB5.out.mono HB3.out.size), HY0.out.below HY0.out.lt HB5.out, HY1.out.below HY1.out.lt HB5.out⟩
        case measure => simp [intOf]; omega
      · have f0 := HY1.out.cell 0 _ rfl
        have f1 := HY1.out.cell 1 _ rfl
        have f2 := HY1.out.cell 2 _ rfl
        have HK := Lib.hid (show k = 3 ∨ k ≠ 3 by omega)
        rcases HK.out with hk | hk
        · have HTk := Lib.hid (HTu.out (by first | exact hk | trivial))
          have b1 : (k == 3) = true := beq_iff_eq.2 hk
          clear hk HTu
          cases ma with
          | true =>
            go_wp2_with fail
            refine (HWk.out _ HB3.out).mono ?_
            rintro e wz ⟨rfl, hbz⟩
            have HBz := Lib.hid (HB3.out.trans (hbz.mono HB3.out.size))
            clear hbz
            go_wp2
            go_ret
            exact ⟨rfl, HBz.out⟩
          | false =>
            go_wp2_with fail
            refine (HTk.out (by trivial) _ HB3.out).mono ?_
            rintro e w6 ⟨rfl, hb6⟩
            have HB6 := Lib.hid (HB3.out.trans (hb6.mono HB3.out.size))
            clear hb6
            go_wp2_with fail
            refine (HWk.out _ HB6.out).mono ?_
            rintro e wz ⟨rfl, hbz⟩
            have HBz := Lib.hid (HB6.out.trans (hbz.mono HB6.out.size))
            clear hbz
            go_wp2
            go_ret
            exact ⟨rfl, HBz.out⟩
        · have b1 : (k == 3) = false := beq_eq_false_iff_ne.2 hk
          clear hk
          go_wp2_with fail
          refine (HWk.out _ HB3.out).mono ?_
          rintro e wz ⟨rfl, hbz⟩
          have HBz := Lib.hid (HB3.out.trans (hbz.mono HB3.out.size))
          clear hbz
          go_wp2
          go_ret
          exact ⟨rfl, HBz.out⟩
theorem mustMay_all (A : Option Addr) (n c : Nat) (F : Option Addr) (m d : Nat) (f : Fa) (vb vd : Value) (ps : List ByteArray) (fs : List Fa) (bs ds : List Int) (w : World) (h : NetC w A n c F m d ps fs) (hs : Short ps) (hb : Sl w 1 vb (bs.map (Value.int .i64))) (hd : Sl w 1 vd (ds.map (Value.int .i64))) (hz : Zw w) :
    Calls Tryd.prog 7 #[.agg #[.slice A n c, .slice F m d], faA f, .agg #[vb, vd]] w fun e w' => e = .returned (.bool true) ∧ Below w.heap.size w w' := by
  obtain ⟨e1, e2, _⟩ := h.many
  subst e1
  subst e2
  obtain ⟨Ab, nb, cb, rfl, _⟩ := id hb
  obtain ⟨Ad, nd, cd, rfl, _⟩ := id hd
  obtain ⟨k, a, b, t⟩ := f
  by_cases he : mustE ps fs ⟨k, a, b, t⟩ = 0
  · obtain ⟨hc, ha, D, hq, _⟩ := mustE_good he
    rcases checkF_cases ps fs with q | q | ⟨_, hp, _, _, hf⟩
    · omega
    · omega
    · exact mustMay_good A c F d Ab nb cb Ad nd cd k a b t ps fs bs ds w h hs hb hd hz hc hp hf ha D hq
  · obtain ⟨h1, h2⟩ := mustE_bad he
    exact mustMay_bad _ h2 A c F d Ab nb cb Ad nd cd k a b t ps fs w h hs hz h1 rfl
end Go.Proofs.YtdmcopjbckelmaaDoor
