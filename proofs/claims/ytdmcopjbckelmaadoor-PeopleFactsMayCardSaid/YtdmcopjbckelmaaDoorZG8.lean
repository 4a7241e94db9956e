/- Walks of the reference: Consistent, with, May, Must. Conditions: those stated. Walks of the reference: Lives. Conditions: those stated. -/
import Derived.Test.YtdmcopjbckelmaaDoorZG7
import Derived.Test.YtdmcopjbckelmaaDoorZV3
import Derived.Test.YtdmcopjbckelmaaDoorZV2
namespace Go.Proofs.YtdmcopjbckelmaaDoor
section
open Go Go.RowKit Go.Shelf
attribute [local go_sem] Oper.semAt_some

theorem rcheck_is {r : Int} {A : Option Addr} {n c : Nat} {F : Option Addr} {m d : Nat} {ps : List ByteArray} {fs : List Fa} (hc : checkF ps fs = r) (w : World) (h : NetC w A n c F m d ps fs) (hs : Short ps) :
    Calls Tryd.prog 18 #[.agg #[.slice A n c, .slice F m d]] w fun e w' => e = .returned (.int .i64 r) ∧ Below w.heap.size w w' := by
  rw [← hc]
  exact rcheck_any A n c F m d ps fs w h hs
/-- What solved does, in the program's terms. -/
def RSol2 (ps : List ByteArray) (fs : List Fa) (w : World) (e : Ending) (w' : World) : Prop :=
  Below w.heap.size w w' ∧ ((solveF ps fs = none ∧ e = .returned (.tuple #[.pointer none, .bool false])) ∨ ∃ E M B vs, solveF ps fs = some E ∧ solvedF ps fs = some M ∧ e = .returned (.tuple #[.pointer (some ⟨B, 0, none⟩), .bool true]) ∧ w.heap.size ≤ B ∧ Ls (1 + 2 * ps.length) vs M ∧ Cel w' B 143 vs)
theorem rsolved2 (v vf : Value) (ps : List ByteArray) (fs : List Fa) (w : World) (h : Sl w 1 v (namesV ps)) (hf : Sl w 4 vf (fasV fs)) (hp : ps.length ≤ 24) (hfew : fs.length ≤ 60) (ha : AllAbout ps fs) :
    Calls Tryd.prog 54 #[v, vf] w (RSol2 ps fs w) := by
  refine (rsolved_any v vf ps fs w h hf hp hfew ha).mono ?_
  rintro e w' ⟨hb, h2⟩
  refine ⟨hb, ?_⟩
  rcases h2 with ⟨hq, rfl⟩ | ⟨M, B, vs, hq, rfl, h3, h4, h5⟩
  · exact .inl ⟨(solved_none hp ha).1 hq, rfl⟩
  · have hs := solved_isSome hp ha
    rw [hq] at hs
    cases he : solveF ps fs with
    | none => rw [he] at hs; cases hs
    | some E => exact .inr ⟨E, M, B, vs, rfl, hq, rfl, h3, h4, h5⟩
theorem fol_must {ps : List ByteArray} {fs : List Fa} {f : Fa} {E M : Mat} (hp : ps.length ≤ 24) (ha : AllAbout ps fs) (e : solveF ps fs = some E) (e' : solvedF ps fs = some M) (hf : aboutB ps f = true) : folB M ps f = mustB E ps f := by
  unfold folB mustB refBs
  rw [List.all_map, List.all_eq_not_any_not, Bool.eq_iff_iff]
  have key : (boundsF ps f).any (fun b => !((fun b : Bo => decide (M b.x b.y ≤ b.by_)) ∘ refB) b) = (boundsF ps f).any (overB E) := by
    rw [Bool.eq_iff_iff, List.any_eq_true, List.any_eq_true]
    have each : ∀ b ∈ boundsF ps f, (!((fun b : Bo => decide (M b.x b.y ≤ b.by_)) ∘ refB) b) = overB E b := by
      intro b hb
      obtain ⟨h1, h2⟩ := boundsF_in hf b hb
      have := solved_eq hp ha e e' (rs_lt h1) (rs_lt h2)
      rw [sg_rs, sg_rs] at this
      unfold overB
      rw [Bool.eq_iff_iff, Bool.not_eq_true', decide_eq_true_eq]
      show decide (M (rs b.x) (rs b.y) ≤ b.by_) = false ↔ _
      rw [decide_eq_false_iff_not, this]
      omega
    exact ⟨fun ⟨b, h1, h2⟩ => ⟨b, h1, by rw [← each b h1]; exact h2⟩, fun ⟨b, h1, h2⟩ => ⟨b, h1, by rw [each b h1]; exact h2⟩⟩
  rw [key]
set_option maxHeartbeats 1000000 in
theorem rconsistent_any (A : Option Addr) (n c : Nat) (F : Option Addr) (m d : Nat) (ps : List ByteArray) (fs : List Fa) (w : World) (h : NetC w A n c F m d ps fs) (hs : Short ps) :
    Calls Tryd.prog 16 #[.agg #[.slice A n c, .slice F m d]] w fun e w' => e = .returned (.tuple #[.bool (consF ps fs), .int .i64 (checkF ps fs)]) ∧ Below w.heap.size w w' := by
  have hb0 := below_alloc' w (.cells #[.slice A n c, .slice F m d] 25)
  have y0 := Cel.new w 25 #[.slice A n c, .slice F m d]
  have HN := Lib.hid h
  have HS := Lib.hid hs
  unfold consF
  have bad : ∀ r : Int, (r = 3 ∨ r = 100) → checkF ps fs = r → Calls Tryd.prog 16 #[.agg #[.slice A n c, .slice F m d]] w fun e w' => e = .returned (.tuple #[.bool false, .int .i64 r]) ∧ Below w.heap.size w w' := by
    intro r hr hc
    have HK := Lib.hid (rcheck_is hc _ (HN.out.below hb0) HS.out)
    clear hc y0 h hs
    rcases hr with rfl | rfl
    all_goals
      go_enter Tryd.func16, Tryd.ntmps16
      go_wp2_with fail
      refine HK.out.mono ?_
      rintro e w1 ⟨rfl, hb1⟩
      have HB := Lib.hid (hb0.trans (hb1.mono hb0.size))
      clear hb0 hb1
      go_wp2
      go_ret2
      exact ⟨rfl, HB.out⟩
  rcases checkF_cases ps fs with hc | hc | ⟨hc, hp, hfew, _, hf⟩
  · have := bad 3 (.inl rfl) hc
    rw [hc]
    exact this
  · have := bad 100 (.inr rfl) hc
    rw [hc]
    exact this
  · have HK := Lib.hid (rcheck_is hc _ (h.below hb0) hs)
    have HX := Lib.hid (fun w' (hw : Below w.heap.size w w') => rsolved2 (.slice A n c) (.slice F m d) ps fs w' (HN.out.people.below hw) (HN.out.facts.below hw) hp (by omega) hf)
    rw [hc]
    clear bad hc hf h hs
    go_enter Tryd.func16, Tryd.ntmps16
    go_wp2_with fail
    refine HK.out.mono ?_
    rintro e w1 ⟨rfl, hb1⟩
    have HB := Lib.hid (hb0.trans (hb1.mono hb0.size))
    have y1 := y0.below y0.lt hb1
    have z0 := y1.cell 0 _ rfl
    have z1 := y1.cell 1 _ rfl
    clear hb0 hb1 y0 y1
    go_wp2_with fail
    refine (HX.out w1 HB.out).mono ?_
    rintro e w2 ⟨hb2, h2⟩
    have HB2 := Lib.hid (HB.out.trans (hb2.mono HB.out.size))
    clear hb2 z0 z1 HX
    rcases h2 with ⟨hq, rfl⟩ | ⟨E, M, B, vs, hq, hq2, rfl, _, _, _⟩
    · have HQ := Lib.hid hq
      clear hq
      go_wp2
      go_ret2
      exact ⟨by rw [HQ.out]; rfl, HB2.out⟩
    · have HQ := Lib.hid hq
      clear hq hq2
      go_wp2
      go_ret2
      exact ⟨by rw [HQ.out]; rfl, HB2.out⟩
set_option maxRecDepth 100000 in
set_option maxHeartbeats 2000000 in
theorem with_any (v : Value) (fs : List Fa) (f : Fa) (w : World) (h : Sl w 4 v (fasV fs)) (hm : fs.length ≤ 60) :
    Calls Tryd.prog 64 #[v, faA f] w fun e w' => ∃ v', e = .returned v' ∧ Below w.heap.size w w' ∧ Sl w' 4 v' (fasV (fs ++ [f])) := by
  obtain ⟨k, a, b, t⟩ := f
  obtain ⟨A, n, c, rfl, _⟩ := h.shape
  have hb0 := below_alloc' w (.cells #[.int .i64 k, .string a, .string b, .int .i64 t] 40)
  have y0 := Cel.new w 40 #[.int .i64 k, .string a, .string b, .int .i64 t]
  have HSf := Lib.hid (h.below hb0)
  have HFs := Lib.hid hm
  have HE := Lib.hid (fas_snoc fs ⟨k, a, b, t⟩)
  unfold faV at HE
  simp only at HE
  have HBV := Lib.hid hb0
  have f0 := y0.cell 0 _ rfl
  have f1 := y0.cell 1 _ rfl
  have f2 := y0.cell 2 _ rfl
  have f3 := y0.cell 3 _ rfl
  obtain ⟨V, hV⟩ : ∃ V, w.alloc (.cells #[.int .i64 k, .string a, .string b, .int .i64 t] 40) = V := ⟨_, rfl⟩
  have HY := Lib.hid y0
  rw [hV] at HSf HBV f0 f1 f2 f3 HY
  clear h hm y0 hb0
  unfold faA
  simp only
  go_enter Tryd.func64, Tryd.ntmps64
  go_upto_region 2 with fail
  clear hV
  have HSx := Lib.hid (Sl.new (s := 4) V 40 1 1 #[.int .i64 k, .string a, .string b, .int .i64 t] rfl (Nat.le_refl _) (by decide))
  go_region_law (first
      | (refine stepFactB (.tmp 6) (.tmp 7) rfl rfl (by rfl) (by rfl) (World.ownsRow_nil _ V.heap.size _ _) (by first | exact HSf.out.drew | exact (HSf.out.alloc (.cells #[.int .i64 k, .string a, .string b, .int .i64 t] 40)).drew) fas_one (N := fs.length) (by rw [fasV_length]; omega) (by have := HFs.out; omega) (by simp) ?_; intro A5 c5 w5 hap; have HAP := Lib.hid hap; have hb5 : Below V.heap.size V w5 := (by first | exact below_undrew (below_grown hap.grown (fun g e => by cases e)) | exact below_then (below_alloc' V (.cells #[.int .i64 k, .string a, .string b, .int .i64 t] 40)) (below_undrew (below_grown hap.grown (fun g e => by cases e)))); have HB5 := Lib.hid hb5; have HL5 := Lib.hid (fun (q : True) => hap.grown); have e0 := below_cell hb5 f0; have e1 := below_cell hb5 f1; have e2 := below_cell hb5 f2; have e3 := below_cell hb5 f3; clear hap hb5)
      | (refine stepFactB (.tmp 8) (.tmp 10) rfl rfl (by rfl) (by rfl) (by first | exact HAP.out.own | exact HAP.out.own.alloc (.cells #[.int .i64 k, .string a, .string b, .int .i64 t] 40)) (by first | exact Sl.new (s := 4) w5 40 1 1 #[.int .i64 k, .string a, .string b, .int .i64 t] rfl (Nat.le_refl _) (by decide) | exact HSx.out.below (below_undrew (below_grown (HL5.out trivial) (fun g e => by cases e)))) (by simp [Value.oneCell']) (N := fs.length + 1) (by simp; omega) (by have := HFs.out; omega) (by have := HB5.out.size; simp; omega) ?_; intro A6 c6 w6 hap; have HEnd := Lib.hid (Sl.of_own hap.own); have HG := Lib.hid (show Below w.heap.size w w6 by first | exact below_of_own hap.grown HAP.out.own (HBV.out.trans (HB5.out.mono HBV.out.size)) HBV.out.size | exact below_of_own hap.grown (HAP.out.own.alloc (.cells #[.int .i64 k, .string a, .string b, .int .i64 t] 40)) ((HBV.out.trans (HB5.out.mono HBV.out.size)).alloc (HBV.out.trans (HB5.out.mono HBV.out.size)).size (.cells #[.int .i64 k, .string a, .string b, .int .i64 t] 40)) HBV.out.size); clear hap))
  all_goals (
    go_wp2
    go_ret
    exact ⟨_, rfl, HG.out, by rw [HE.out]; simpa using HEnd.out⟩)
set_option maxRecDepth 100000 in
set_option maxHeartbeats 4000000 in
theorem rmay_any (A : Option Addr) (n c : Nat) (F : Option Addr) (m d : Nat) (ps : List ByteArray) (fs : List Fa) (f : Fa) (w : World) (h : NetC w A n c F m d ps fs) (hs : Short ps) :
    Calls Tryd.prog 24 #[.agg #[.slice A n c, .slice F m d], faA f] w fun e w' => e = .returned (.tuple #[.bool (mayB ps fs f), .int .i64 (factE ps fs f)]) ∧ Below w.heap.size w w' := by
  obtain ⟨k, a, b, t⟩ := f
  unfold mayB factE faA
  simp only
  have hb0 := (below_alloc' w (.cells #[.slice A n c, .slice F m d] 25)).alloc (by simp) (.cells #[.int .i64 k, .string a, .string b, .int .i64 t] 40)
  have y0 := (Cel.new w 25 #[.slice A n c, .slice F m d]).alloc (.cells #[.int .i64 k, .string a, .string b, .int .i64 t] 40)
  have y1 := Cel.new (w.alloc (.cells #[.slice A n c, .slice F m d] 25)) 40 #[.int .i64 k, .string a, .string b, .int .i64 t]
  rw [World.size_alloc] at y1
  have HN := Lib.hid h
  have HS := Lib.hid hs
  have bad : ∀ r : Int, (r = 3 ∨ r = 100) → checkF ps fs = r → Calls Tryd.prog 24 #[.agg #[.slice A n c, .slice F m d], .agg #[.int .i64 k, .string a, .string b, .int .i64 t]] w fun e w' => e = .returned (.tuple #[.bool false, .int .i64 r]) ∧ Below w.heap.size w w' := by
    intro r hr hc
    have HK := Lib.hid (rcheck_is hc _ (HN.out.below hb0) HS.out)
    clear hc y0 y1 h hs
    rcases hr with rfl | rfl
    all_goals
      go_enter Tryd.func24, Tryd.ntmps24
      go_wp2_with fail
      refine HK.out.mono ?_
      rintro e w1 ⟨rfl, hb1⟩
      have HB := Lib.hid (hb0.trans (hb1.mono hb0.size))
      clear hb0 hb1
      go_wp2
      go_ret2
      exact ⟨rfl, HB.out⟩
  rcases checkF_cases ps fs with hc | hc | ⟨hc, hp, hfew, _, hf⟩
  · have := bad 3 (.inl rfl) hc
    rw [hc]
    exact this
  · have := bad 100 (.inr rfl) hc
    rw [hc]
    exact this
  · clear bad
    have HK := Lib.hid (rcheck_is hc _ (h.below hb0) hs)
    have HA := Lib.hid (fun w' (hw : Below w.heap.size w w') => rvalid_any (.slice A n c) ps ⟨k, a, b, t⟩ w' (HN.out.people.below hw))
    unfold faA at HA
    simp only at HA
    cases ha : aboutB ps ⟨k, a, b, t⟩ with
    | false =>
      rw [ha] at HA
      rw [hc]
      clear hc hf h hs ha
      go_enter Tryd.func24, Tryd.ntmps24
      go_wp2_with fail
      refine HK.out.mono ?_
      rintro e w1 ⟨rfl, hb1⟩
      have HB := Lib.hid (hb0.trans (hb1.mono hb0.size))
      have x0 := y0.below y0.lt hb1
      have x1 := y1.below y1.lt hb1
      have z0 := x0.cell 0 _ rfl
      have z1 := x0.cell 1 _ rfl
      have z2 := x1.cell 0 _ rfl
      have z3 := x1.cell 1 _ rfl
      have z4 := x1.cell 2 _ rfl
      have z5 := x1.cell 3 _ rfl
      clear hb0 hb1 y0 y1 x0 x1
      go_wp2_with fail
      refine (HA.out w1 HB.out).mono ?_
      rintro e w2 ⟨rfl, hb2⟩
      have HB2 := Lib.hid (HB.out.trans (hb2.mono HB.out.size))
      clear hb2 z0 z1 z2 z3 z4 z5
      go_wp2
      go_ret2
      exact ⟨rfl, HB2.out⟩
    | true =>
      have HAb := Lib.hid ha
      rw [ha] at HA
      rw [hc]
      have HP := Lib.hid hp
      have HF := Lib.hid hf
      have HX := Lib.hid (fun v vf gs w' h1 h2 (h3 : gs.length ≤ 60) h4 => rsolved2 v vf ps gs w' h1 h2 hp h3 h4)
      have HFe := Lib.hid hfew
      clear hc hf h hs ha
      go_enter Tryd.func24, Tryd.ntmps24
      go_wp2_with fail
      refine HK.out.mono ?_
      rintro e w1 ⟨rfl, hb1⟩
      have HB := Lib.hid (hb0.trans (hb1.mono hb0.size))
      have HY0 := Lib.hid (y0.below y0.lt hb1)
      have HY1 := Lib.hid (y1.below y1.lt hb1)
      have z0 := HY0.out.cell 0 _ rfl
      have z1 := HY0.out.cell 1 _ rfl
      have z2 := HY1.out.cell 0 _ rfl
      have z3 := HY1.out.cell 1 _ rfl
      have z4 := HY1.out.cell 2 _ rfl
      have z5 := HY1.out.cell 3 _ rfl
      clear hb0 hb1 y0 y1
      go_wp2_with fail
      refine (HA.out w1 HB.out).mono ?_
      rintro e w2 ⟨rfl, hb2⟩
      have HB2 := Lib.hid (HB.out.trans (hb2.mono HB.out.size))
      replace HY0 := Lib.hid (HY0.out.below HY0.out.lt hb2)
      replace HY1 := Lib.hid (HY1.out.below HY1.out.lt hb2)
      clear hb2 z0 z1 z2 z3 z4 z5
      have HWi := Lib.hid (fun w' (hw : Below w2.heap.size w2 w') => with_any (.slice F m d) fs ⟨k, a, b, t⟩ w' (HN.out.facts.below (HB2.out.trans (hw.mono HB2.out.size))) (by have := HFe.out; omega))
      unfold faA at HWi
      simp only at HWi
      have z0' := HY0.out.cell 0 _ rfl
      have z1' := HY0.out.cell 1 _ rfl
      have f0' := HY1.out.cell 0 _ rfl
      have f1' := HY1.out.cell 1 _ rfl
      have f2' := HY1.out.cell 2 _ rfl
      have f3' := HY1.out.cell 3 _ rfl
      have HAs := Lib.hid (about_snoc HF.out HAb.out)
      have HLn := Lib.hid (show (fs ++ [(⟨k, a, b, t⟩ : Fa)]).length ≤ 60 by have := HFe.out; simp; omega)
      go_upto_region 6 with fail
      refine wp_region_held_drew (S := fun w' => Below w2.heap.size w2 w') (by kernel_rfl) (below_drew (Below.refl _ _)) (fun hHeld => ?_)
      refine wpAnyH_takeD (i := 0) (v := ?_) 20 rfl (by kernel_rfl) (by kernel_rfl) (by kernel_rfl) (fun _ _ _ h => h) (Or.inl ⟨by rfl, ?_⟩) (by assumption) rfl ?_
      rotate_left
      · intro w' hSw
        have z0 := below_cell hSw z0'; have z1 := below_cell hSw z1'; have f0 := below_cell hSw f0'; have f1 := below_cell hSw f1'; have f2 := below_cell hSw f2'; have f3 := below_cell hSw f3'
        go_simp <;> with_reducible rfl
      simp only [List.setIfInBounds_toArray, List.set_cons_succ, List.set_cons_zero]
      refine wpAnyH_takeD (i := 1) (v := ?_) 21 rfl (by kernel_rfl) (by kernel_rfl) (by kernel_rfl) (fun _ _ _ h => h) (Or.inl ⟨by rfl, ?_⟩) (by assumption) rfl ?_
      rotate_left
      · intro w' hSw
        have z0 := below_cell hSw z0'; have z1 := below_cell hSw z1'; have f0 := below_cell hSw f0'; have f1 := below_cell hSw f1'; have f2 := below_cell hSw f2'; have f3 := below_cell hSw f3'
        go_simp <;> with_reducible rfl
      simp only [List.setIfInBounds_toArray, List.set_cons_succ, List.set_cons_zero]
      refine wpAnyH_takeD (i := 2) (v := ?_) 22 rfl (by kernel_rfl) (by kernel_rfl) (by kernel_rfl) (fun _ _ _ h => h) (Or.inl ⟨by rfl, ?_⟩) (by assumption) rfl ?_
      rotate_left
      · intro w' hSw
        have z0 := below_cell hSw z0'; have z1 := below_cell hSw z1'; have f0 := below_cell hSw f0'; have f1 := below_cell hSw f1'; have f2 := below_cell hSw f2'; have f3 := below_cell hSw f3'
        go_simp <;> with_reducible rfl
      simp only [List.setIfInBounds_toArray, List.set_cons_succ, List.set_cons_zero]
      refine wpAnyH_takeD (i := 3) (v := ?_) 23 rfl (by kernel_rfl) (by kernel_rfl) (by kernel_rfl) (fun _ _ _ h => h) (Or.inl ⟨by rfl, ?_⟩) (by assumption) rfl ?_
      rotate_left
      · intro w' hSw
        have z0 := below_cell hSw z0'; have z1 := below_cell hSw z1'; have f0 := below_cell hSw f0'; have f1 := below_cell hSw f1'; have f2 := below_cell hSw f2'; have f3 := below_cell hSw f3'
        go_simp <;> with_reducible rfl
      simp only [List.setIfInBounds_toArray, List.set_cons_succ, List.set_cons_zero]
      refine wpAnyH_takeD (i := 4) (v := ?_) 24 rfl (by kernel_rfl) (by kernel_rfl) (by kernel_rfl) (fun _ _ _ h => h) (Or.inl ⟨by rfl, ?_⟩) (by assumption) rfl ?_
      rotate_left
      · intro w' hSw
        have z0 := below_cell hSw z0'; have z1 := below_cell hSw z1'; have f0 := below_cell hSw f0'; have f1 := below_cell hSw f1'; have f2 := below_cell hSw f2'; have f3 := below_cell hSw f3'
        go_simp <;> with_reducible rfl
      simp only [List.setIfInBounds_toArray, List.set_cons_succ, List.set_cons_zero]
      refine wpAnyH_ready (rs := [5]) (by kernel_rfl) (by simp) ?_
      refine AllReadyH.cons (o := _) rfl (fun K hK => ?_) AllReadyH.nil
      go_simp
      go_at_call 64
      refine (HWi.out _ hHeld).mono ?_
      rintro e w3 ⟨v3, rfl, hb3, hs3⟩
      have HB3 := Lib.hid (hHeld.trans (hb3.mono hHeld.size))
      have HS3 := Lib.hid hs3
      clear hb3 hs3
      refine hK.out _ _ HB3.out (fun hHeld3 => ?_)
      clear hK K
      refine wpAnyH_ready (rs := [6]) (by kernel_rfl) (by simp) ?_
      refine AllReadyH.cons (o := _) rfl (fun K hK => ?_) AllReadyH.nil
      go_simp
      go_at_call 54
      refine (HX.out _ _ _ _ (HN.out.people.below (HB2.out.trans (HB3.out.mono HB2.out.size))) HS3.out HLn.out HAs.out).mono ?_
      rintro e w4 ⟨hb4, h4⟩
      have HB4 := Lib.hid (HB3.out.trans (hb4.mono HB3.out.size))
      clear hb4
      rcases h4 with ⟨hq, rfl⟩ | ⟨E, M, B, vs, hq, hq2, rfl, _, _, _⟩
      all_goals
        have HQ := Lib.hid hq
        clear hq
        refine hK.out _ _ HB4.out (fun hHeld4 => ?_)
        clear hK K
        refine wpAnyH_takeD (i := 7) (v := ?_) 19 rfl (by kernel_rfl) (by kernel_rfl) (by kernel_rfl) (fun _ _ _ h => h) (Or.inl ⟨by rfl, ?_⟩) (by assumption) rfl ?_
        rotate_left
        · intro w' hSw
          have z0 := below_cell hSw z0'; have z1 := below_cell hSw z1'; have f0 := below_cell hSw f0'; have f1 := below_cell hSw f1'; have f2 := below_cell hSw f2'; have f3 := below_cell hSw f3'
          go_simp <;> with_reducible rfl
        simp only [List.setIfInBounds_toArray, List.set_cons_succ, List.set_cons_zero]
        refine wpAnyH_takeD (i := 8) (v := ?_) 27 rfl (by kernel_rfl) (by kernel_rfl) (by kernel_rfl) (fun _ _ _ h => h) (Or.inl ⟨by rfl, ?_⟩) (by assumption) rfl ?_
        rotate_left
        · intro w' hSw
          have z0 := below_cell hSw z0'; have z1 := below_cell hSw z1'; have f0 := below_cell hSw f0'; have f1 := below_cell hSw f1'; have f2 := below_cell hSw f2'; have f3 := below_cell hSw f3'
          go_simp <;> with_reducible rfl
        simp only [List.setIfInBounds_toArray, List.set_cons_succ, List.set_cons_zero]
        refine wpAnyH_takeD (i := 9) (v := ?_) 28 rfl (by kernel_rfl) (by kernel_rfl) (by kernel_rfl) (fun _ _ _ h => h) (Or.inl ⟨by rfl, ?_⟩) (by assumption) rfl ?_
        rotate_left
        · intro w' hSw
          have z0 := below_cell hSw z0'; have z1 := below_cell hSw z1'; have f0 := below_cell hSw f0'; have f1 := below_cell hSw f1'; have f2 := below_cell hSw f2'; have f3 := below_cell hSw f3'
          go_simp <;> with_reducible rfl
        simp only [List.setIfInBounds_toArray, List.set_cons_succ, List.set_cons_zero]
        refine wpAnyH_takeD (i := 10) (v := ?_) 7 rfl (by kernel_rfl) (by kernel_rfl) (by kernel_rfl) (fun _ _ _ h => h) (Or.inl ⟨by rfl, ?_⟩) (by assumption) rfl ?_
        rotate_left
        · intro w' hSw
          have z0 := below_cell hSw z0'; have z1 := below_cell hSw z1'; have f0 := below_cell hSw f0'; have f1 := below_cell hSw f1'; have f2 := below_cell hSw f2'; have f3 := below_cell hSw f3'
          go_simp <;> with_reducible rfl
        simp only [List.setIfInBounds_toArray, List.set_cons_succ, List.set_cons_zero]
        refine wpAnyH_takeD (i := 11) (v := ?_) 8 rfl (by kernel_rfl) (by kernel_rfl) (by kernel_rfl) (fun _ _ _ h => h) (Or.inl ⟨by rfl, ?_⟩) (by assumption) rfl ?_
        rotate_left
        · intro w' hSw
          have z0 := below_cell hSw z0'; have z1 := below_cell hSw z1'; have f0 := below_cell hSw f0'; have f1 := below_cell hSw f1'; have f2 := below_cell hSw f2'; have f3 := below_cell hSw f3'
          go_simp <;> with_reducible rfl
        simp only [List.setIfInBounds_toArray, List.set_cons_succ, List.set_cons_zero]
        refine wpAnyH_done (by kernel_rfl) ?_ _
        go_wp2
        go_ret2
        exact ⟨by rw [HQ.out]; rfl, HB2.out.trans (HB4.out.mono HB2.out.size)⟩
set_option maxRecDepth 100000 in
set_option maxHeartbeats 4000000 in
theorem rmust_any (A : Option Addr) (n c : Nat) (F : Option Addr) (m d : Nat) (ps : List ByteArray) (fs : List Fa) (f : Fa) (w : World) (h : NetC w A n c F m d ps fs) (hs : Short ps) :
    Calls Tryd.prog 26 #[.agg #[.slice A n c, .slice F m d], faA f] w fun e w' => e = .returned (.tuple #[.bool (mustV ps fs f), .int .i64 (mustE ps fs f)]) ∧ Below w.heap.size w w' := by
  obtain ⟨k, a, b, t⟩ := f
  unfold mustV mustE faA
  simp only
  have hb0 := (below_alloc' w (.cells #[.slice A n c, .slice F m d] 25)).alloc (by simp) (.cells #[.int .i64 k, .string a, .string b, .int .i64 t] 40)
  have y0 := (Cel.new w 25 #[.slice A n c, .slice F m d]).alloc (.cells #[.int .i64 k, .string a, .string b, .int .i64 t] 40)
  have y1 := Cel.new (w.alloc (.cells #[.slice A n c, .slice F m d] 25)) 40 #[.int .i64 k, .string a, .string b, .int .i64 t]
  rw [World.size_alloc] at y1
  have HN := Lib.hid h
  have HS := Lib.hid hs
  have bad : ∀ r : Int, (r = 3 ∨ r = 100) → checkF ps fs = r → Calls Tryd.prog 26 #[.agg #[.slice A n c, .slice F m d], .agg #[.int .i64 k, .string a, .string b, .int .i64 t]] w fun e w' => e = .returned (.tuple #[.bool false, .int .i64 r]) ∧ Below w.heap.size w w' := by
    intro r hr hc
    have HK := Lib.hid (rcheck_is hc _ (HN.out.below hb0) HS.out)
    clear hc y0 y1 h hs
    rcases hr with rfl | rfl
    all_goals
      go_enter Tryd.func26, Tryd.ntmps26
      go_wp2_with fail
      refine HK.out.mono ?_
      rintro e w1 ⟨rfl, hb1⟩
      have HB := Lib.hid (hb0.trans (hb1.mono hb0.size))
      clear hb0 hb1
      go_wp2
      go_ret2
      exact ⟨rfl, HB.out⟩
  rcases checkF_cases ps fs with hc | hc | ⟨hc, hp, hfew, _, hf⟩
  · have := bad 3 (.inl rfl) hc
    rw [hc]
    exact this
  · have := bad 100 (.inr rfl) hc
    rw [hc]
    exact this
  · clear bad
    have HK := Lib.hid (rcheck_is hc _ (h.below hb0) hs)
    have HA := Lib.hid (fun w' (hw : Below w.heap.size w w') => rvalid_any (.slice A n c) ps ⟨k, a, b, t⟩ w' (HN.out.people.below hw))
    unfold faA at HA
    simp only at HA
    cases ha : aboutB ps ⟨k, a, b, t⟩ with
    | false =>
      rw [ha] at HA
      rw [hc]
      clear hc hf h hs ha
      go_enter Tryd.func26, Tryd.ntmps26
      go_wp2_with fail
      refine HK.out.mono ?_
      rintro e w1 ⟨rfl, hb1⟩
      have HB := Lib.hid (hb0.trans (hb1.mono hb0.size))
      have x0 := y0.below y0.lt hb1
      have x1 := y1.below y1.lt hb1
      have z0 := x0.cell 0 _ rfl
      have z1 := x0.cell 1 _ rfl
      have z2 := x1.cell 0 _ rfl
      have z3 := x1.cell 1 _ rfl
      have z4 := x1.cell 2 _ rfl
      have z5 := x1.cell 3 _ rfl
      clear hb0 hb1 y0 y1 x0 x1
      go_wp2_with fail
      refine (HA.out w1 HB.out).mono ?_
      rintro e w2 ⟨rfl, hb2⟩
      have HB2 := Lib.hid (HB.out.trans (hb2.mono HB.out.size))
      clear hb2 z0 z1 z2 z3 z4 z5
      go_wp2
      go_ret2
      exact ⟨rfl, HB2.out⟩
    | true =>
      have HAb := Lib.hid ha
      rw [ha] at HA
      rw [hc]
      have HP := Lib.hid hp
      have HF := Lib.hid hf
      have HX := Lib.hid (fun v vf gs w' h1 h2 (h3 : gs.length ≤ 60) h4 => rsolved2 v vf ps gs w' h1 h2 hp h3 h4)
      have HFe := Lib.hid hfew
      clear hc hf h hs ha
      go_enter Tryd.func26, Tryd.ntmps26
      go_wp2_with fail
      refine HK.out.mono ?_
      rintro e w1 ⟨rfl, hb1⟩
      have HB := Lib.hid (hb0.trans (hb1.mono hb0.size))
      have HY0 := Lib.hid (y0.below y0.lt hb1)
      have HY1 := Lib.hid (y1.below y1.lt hb1)
      have z0 := HY0.out.cell 0 _ rfl
      have z1 := HY0.out.cell 1 _ rfl
      have z2 := HY1.out.cell 0 _ rfl
      have z3 := HY1.out.cell 1 _ rfl
      have z4 := HY1.out.cell 2 _ rfl
      have z5 := HY1.out.cell 3 _ rfl
      clear hb0 hb1 y0 y1
      go_wp2_with fail
      refine (HA.out w1 HB.out).mono ?_
      rintro e w2 ⟨rfl, hb2⟩
      have HB2 := Lib.hid (HB.out.trans (hb2.mono HB.out.size))
      replace HY0 := Lib.hid (HY0.out.below HY0.out.lt hb2)
      replace HY1 := Lib.hid (HY1.out.below HY1.out.lt hb2)
      clear hb2 z0 z1 z2 z3 z4 z5
      have z0 := HY0.out.cell 0 _ rfl
      have z1 := HY0.out.cell 1 _ rfl
      go_wp2_with fail
      refine (HX.out _ _ _ _ (HN.out.people.below HB2.out) (HN.out.facts.below HB2.out) (by have := HFe.out; omega) HF.out).mono ?_
      rintro e w3 ⟨hb3, h3⟩
      have HB3 := Lib.hid (HB2.out.trans (hb3.mono HB2.out.size))
      replace HY0 := Lib.hid (HY0.out.below HY0.out.lt hb3)
      replace HY1 := Lib.hid (HY1.out.below HY1.out.lt hb3)
      clear hb3 z0 z1
      rcases h3 with ⟨hq, rfl⟩ | ⟨E, M, B, vs, hq, hq2, rfl, _, hV, hC⟩
      · have HQ := Lib.hid hq
        clear hq
        go_wp2
        go_ret2
        exact ⟨by rw [must_none HQ.out, contrary_none HQ.out]; rfl, HB3.out⟩
      · have HQ := Lib.hid hq
        have HFo := Lib.hid (follows_any B M vs (.slice A n c) ps ⟨k, a, b, t⟩ w3 hC hV (HN.out.people.below HB3.out) HP.out HAb.out)
        rw [fol_must HP.out HF.out hq hq2 HAb.out] at HFo
        unfold faA at HFo
        simp only at HFo
        have z0 := HY0.out.cell 0 _ rfl
        have z2 := HY1.out.cell 0 _ rfl
        have z3 := HY1.out.cell 1 _ rfl
        have z4 := HY1.out.cell 2 _ rfl
        have z5 := HY1.out.cell 3 _ rfl
        clear hq hq2 hV hC
        go_wp2_with fail
        refine HFo.out.mono ?_
        rintro e w4 ⟨rfl, hb4⟩
        have HB4 := Lib.hid (HB3.out.trans (hb4.mono HB3.out.size))
        have HR := Lib.hid (must_some (f := ⟨k, a, b, t⟩) HQ.out)
        clear hb4 z0 z2 z3 z4 z5
        generalize mustB E ps ⟨k, a, b, t⟩ = r at *
        go_wp2
        go_ret2
        exact ⟨by rw [HR.out, contrary_some HQ.out]; rfl, HB4.out⟩
end

section
open Go Go.RowKit Go.Shelf
attribute [local go_sem] Oper.semAt_some

theorem life_one (a b c d : Int) : ∀ u ∈ [Value.int .i64 a, .int .i64 b, .int .i64 c, .int .i64 d], u.oneCell' = true := by
  intro u hu
  simp only [List.mem_cons, List.not_mem_nil, or_false] at hu
  rcases hu with rfl | rfl | rfl | rfl <;> rfl
def livO (n : Nat) (o : Option Mat) : List Value := match o with
  | some D => livesV D n
  | none => []
theorem liv_ok {ps : List ByteArray} {fs : List Fa} (hc : checkF ps fs = 0) : livL ps fs = livO ps.length (solveF ps fs) := by
  unfold livL livO
  rw [hc, if_neg (fun q => q rfl)]
  cases solveF ps fs <;> rfl
set_option maxRecDepth 100000 in
set_option maxHeartbeats 4000000 in
theorem rlives_good (A : Option Addr) (n c : Nat) (F : Option Addr) (m d : Nat) (ps : List ByteArray) (fs : List Fa) (w : World) (h : NetC w A n c F m d ps fs) (hs : Short ps) (hc : checkF ps fs = 0) (hp : ps.length ≤ 24) (hfew : fs.length ≤ 48) (hf : AllAbout ps fs) :
    Calls Tryd.prog 20 #[.agg #[.slice A n c, .slice F m d]] w (LivP (livE ps fs) (livL ps fs) w) := by
  obtain ⟨e1, e2, _, _, _, _⟩ := h.many
  subst e1
  subst e2
  have hb0 := below_alloc' w (.cells #[.slice A ps.length c, .slice F fs.length d] 25)
  have y0 := Cel.new w 25 #[.slice A ps.length c, .slice F fs.length d]
  have HK := Lib.hid (rcheck_is hc _ (h.below hb0) hs)
  have HN := Lib.hid h
  have HX := Lib.hid (fun w' (hw : Below w.heap.size w w') => rsolved2 (.slice A ps.length c) (.slice F fs.length d) ps fs w' (h.people.below hw) (h.facts.below hw) hp (by omega) hf)
  have HE := Lib.hid (show livE ps fs = if (solveF ps fs).isSome then 0 else 101 by unfold livE; rw [hc, if_neg (fun q => q rfl)])
  have HLv := Lib.hid (liv_ok hc)
  have HG := Lib.hid (fun D e => solveF_good (D := D) hp hf e)
  have HEq := Lib.hid (fun E M e e' i k hi hk => solved_eq (D := E) (M := M) hp hf e e' (i := i) (k := k) hi hk)
  clear h hs hc hf
  go_enter Tryd.func20, Tryd.ntmps20
  go_wp2_with fail
  refine HK.out.mono ?_
  rintro e w1 ⟨rfl, hb1⟩
  have HB := Lib.hid (hb0.trans (hb1.mono hb0.size))
  have HY := Lib.hid (y0.below y0.lt hb1)
  have z0 := HY.out.cell 0 _ rfl
  have z1 := HY.out.cell 1 _ rfl
  clear hb0 hb1 y0 HK
  go_wp2_with fail
  refine (HX.out w1 HB.out).mono ?_
  rintro e w2 ⟨hb2, h2⟩
  have HB2 := Lib.hid (HB.out.trans (hb2.mono HB.out.size))
  have HY2 := Lib.hid (HY.out.below HY.out.lt hb2)
  have HS1 := Lib.hid HY.out.lt
  clear hb2 z0 z1 HX HY
  rcases h2 with ⟨hq, rfl⟩ | ⟨E, M, B, vs, hq, hq2, rfl, hB, hV, hC⟩
  · have HQ := Lib.hid hq
    clear hq
    go_wp2
    go_ret2
    exact ⟨HB2.out, _, by rw [HE.out, HQ.out]; rfl, by rw [HLv.out, HQ.out]; exact Sl.nil0 _ _⟩
  · have HQ := Lib.hid hq
    have HV := Lib.hid hV
    have HC := Lib.hid hC
    have HGd := Lib.hid (HG.out E hq)
    have HM := Lib.hid (fun i k hi hk => HEq.out E M hq hq2 i k hi hk)
    have z0 := HY2.out.cell 0 _ rfl
    clear hq hq2 hV hC hB HG HEq
    go_wp2
    clear z0
    go_loopw [7, 8] (fun v ti wr => ∃ k : Nat, ti = .int .i64 k ∧ k ≤ ps.length ∧ Hid (wr.ownsRow w2.heap.size 35 4 v k (livesV E k)) ∧ Hid (Below w2.heap.size w2 wr)) (fun _ ti _ => ps.length - (intOf ti).toNat)
    case atStart => exact ⟨0, rfl, by omega, World.ownsRow_nil _ _ _ _, Below.refl _ _⟩
    case round =>
      obtain ⟨k, rfl, hk, HO, HW⟩ := hrel
      obtain ⟨A7, c7, e7, _⟩ := own_shape HO.out
      subst e7
      have z0 := (HY2.out.below HY2.out.lt HW.out).cell 0 _ rfl
      by_cases hlt : k < ps.length
      · have hki : (k : Int) < (ps.length : Int) := by omega
        obtain ⟨e0, hK⟩ : ∃ e0 : Nat, e0 = 1 + 2 * k := ⟨_, rfl⟩
        obtain ⟨e1, hK1⟩ : ∃ e1 : Nat, e1 = 2 + 2 * k := ⟨_, rfl⟩
        have s0 : sg 0 = 48 := rfl
        have s1 : sg e0 = 2 * k := by rw [hK]; unfold sg; rw [if_neg (by omega)]; omega
        have s2 : sg e1 = 2 * k + 1 := by rw [hK1]; unfold sg; rw [if_neg (by omega)]; omega
        have m1 := HM.out 0 e0 (by omega) (by omega)
        have m2 := HM.out e0 0 (by omega) (by omega)
        have m3 := HM.out 0 e1 (by omega) (by omega)
        have m4 := HM.out e1 0 (by omega) (by omega)
        rw [s0, s1] at m1 m2
        rw [s0, s2] at m3 m4
        have HLs := Lib.hid (show livesV E (k + 1) = livesV E k ++ [.int .i64 (-(M 0 e0)), .int .i64 (M e0 0), .int .i64 (-(M 0 e1)), .int .i64 (M e1 0)] by rw [livesV_succ, ← m1, ← m2, ← m3, ← m4]; rfl)
        have b1 := HGd.out.bd (show 48 < 49 by omega) (show 2 * k < 49 by omega)
        have b3 := HGd.out.bd (show 48 < 49 by omega) (show 2 * k + 1 < 49 by omega)
        have n1 : IntKind.i64.wrap (-(M 0 e0)) = -(M 0 e0) := IntWalk.i64_in _ (by omega)
        have n3 : IntKind.i64.wrap (-(M 0 e1)) = -(M 0 e1) := IntWalk.i64_in _ (by omega)
        have g1' := HC.out.cell _ _ (HV.out.2 0 e0 (by omega) (by omega))
        have g2' := HC.out.cell _ _ (HV.out.2 e0 0 (by omega) (by omega))
        have g3' := HC.out.cell _ _ (HV.out.2 0 e1 (by omega) (by omega))
        have g4' := HC.out.cell _ _ (HV.out.2 e1 0 (by omega) (by omega))
        rw [Nat.zero_mul, Nat.zero_add] at g1' g3'
        rw [Nat.add_zero] at g2' g4'
        have hq3 : (e0 : Int) < 49 := by omega
        have hq4 : (e1 : Int) < 49 := by omega
        have hk2 : (0 : Int) ≤ (e0 : Int) := by omega
        have hk3 : (0 : Int) ≤ (e1 : Int) := by omega
        have w1' : IntKind.i64.wrap (1 + 2 * (k : Int)) = (e0 : Int) := by rw [IntWalk.i64_in _ (by omega)]; omega
        have w2' : IntKind.i64.wrap (2 + 2 * (k : Int)) = (e1 : Int) := by rw [IntWalk.i64_in _ (by omega)]; omega
        have w3' : IntKind.i64.wrap (2 * (k : Int)) = 2 * (k : Int) := IntWalk.i64_in _ (by omega)
        clear hK hK1 s0 s1 s2 m1 m2 m3 m4 b1 b3
        go_upto_region 12 with fail
        clear w1' w2' w3' z0
        generalize M 0 e0 = q1 at *
        generalize M e0 0 = q2 at *
        generalize M 0 e1 = q3 at *
        generalize M e1 0 = q4 at *
        refine wp_region_held_drew (S := fun w' => Below w2.heap.size w2 w') (by kernel_rfl) (below_drew HW.out) (fun hHeld => ?_)
        refine wpAnyH_takeD (i := 0) (v := ?_) 39 rfl (by kernel_rfl) (by kernel_rfl) (by kernel_rfl) (fun _ _ _ h => h) (Or.inl ⟨by rfl, ?_⟩) (by assumption) rfl ?_
        rotate_left
        · intro w' hSw
          have g1 := below_cell hSw g1'; have g2 := below_cell hSw g2'; have g3 := below_cell hSw g3'; have g4 := below_cell hSw g4'
          go_simp <;> with_reducible rfl
        simp only [List.setIfInBounds_toArray, List.set_cons_succ, List.set_cons_zero]
        refine wpAnyH_takeD (i := 1) (v := ?_) 40 rfl (by kernel_rfl) (by kernel_rfl) (by kernel_rfl) (fun _ _ _ h => h) (Or.inl ⟨by rfl, ?_⟩) (by assumption) rfl ?_
        rotate_left
        · intro w' hSw
          have g1 := below_cell hSw g1'; have g2 := below_cell hSw g2'; have g3 := below_cell hSw g3'; have g4 := below_cell hSw g4'
          go_simp <;> with_reducible rfl
        simp only [List.setIfInBounds_toArray, List.set_cons_succ, List.set_cons_zero]
        refine wpAnyH_takeD (i := 2) (v := ?_) 41 rfl (by kernel_rfl) (by kernel_rfl) (by kernel_rfl) (fun _ _ _ h => h) (Or.inl ⟨by rfl, ?_⟩) (by assumption) rfl ?_
        rotate_left
        · intro w' hSw
          have g1 := below_cell hSw g1'; have g2 := below_cell hSw g2'; have g3 := below_cell hSw g3'; have g4 := below_cell hSw g4'
          go_simp <;> with_reducible rfl
        simp only [List.setIfInBounds_toArray, List.set_cons_succ, List.set_cons_zero]
        refine wpAnyH_takeD (i := 3) (v := ?_) 42 rfl (by kernel_rfl) (by kernel_rfl) (by kernel_rfl) (fun _ _ _ h => h) (Or.inl ⟨by rfl, ?_⟩) (by assumption) rfl ?_
        rotate_left
        · intro w' hSw
          have g1 := below_cell hSw g1'; have g2 := below_cell hSw g2'; have g3 := below_cell hSw g3'; have g4 := below_cell hSw g4'
          go_simp <;> with_reducible rfl
        simp only [List.setIfInBounds_toArray, List.set_cons_succ, List.set_cons_zero]
        refine wpAnyH_takeD (i := 4) (v := ?_) 43 rfl (by kernel_rfl) (by kernel_rfl) (by kernel_rfl) (fun _ _ _ h => h) (Or.inl ⟨by rfl, ?_⟩) (by assumption) rfl ?_
        rotate_left
        · intro w' hSw
          have g1 := below_cell hSw g1'; have g2 := below_cell hSw g2'; have g3 := below_cell hSw g3'; have g4 := below_cell hSw g4'
          go_simp <;> with_reducible rfl
        simp only [List.setIfInBounds_toArray, List.set_cons_succ, List.set_cons_zero]
        refine wpAnyH_takeD (i := 5) (v := ?_) 44 rfl (by kernel_rfl) (by kernel_rfl) (by kernel_rfl) (fun _ _ _ h => h) (Or.inl ⟨by rfl, ?_⟩) (by assumption) rfl ?_
        rotate_left
        · intro w' hSw
          have g1 := below_cell hSw g1'; have g2 := below_cell hSw g2'; have g3 := below_cell hSw g3'; have g4 := below_cell hSw g4'
          go_simp <;> with_reducible rfl
        simp only [List.setIfInBounds_toArray, List.set_cons_succ, List.set_cons_zero]
        refine wpAnyH_takeD (i := 6) (v := ?_) 45 rfl (by kernel_rfl) (by kernel_rfl) (by kernel_rfl) (fun _ _ _ h => h) (Or.inl ⟨by rfl, ?_⟩) (by assumption) rfl ?_
        rotate_left
        · intro w' hSw
          have g1 := below_cell hSw g1'; have g2 := below_cell hSw g2'; have g3 := below_cell hSw g3'; have g4 := below_cell hSw g4'
          go_simp <;> with_reducible rfl
        simp only [List.setIfInBounds_toArray, List.set_cons_succ, List.set_cons_zero]
        refine wpAnyH_takeD (i := 7) (v := ?_) 46 rfl (by kernel_rfl) (by kernel_rfl) (by kernel_rfl) (fun _ _ _ h => h) (Or.inl ⟨by rfl, ?_⟩) (by assumption) rfl ?_
        rotate_left
        · intro w' hSw
          have g1 := below_cell hSw g1'; have g2 := below_cell hSw g2'; have g3 := below_cell hSw g3'; have g4 := below_cell hSw g4'
          go_simp <;> with_reducible rfl
        simp only [List.setIfInBounds_toArray, List.set_cons_succ, List.set_cons_zero]
        refine wpAnyH_takeD (i := 8) (v := ?_) 47 rfl (by kernel_rfl) (by kernel_rfl) (by kernel_rfl) (fun _ _ _ h => h) (Or.inl ⟨by rfl, ?_⟩) (by assumption) rfl ?_
        rotate_left
        · intro w' hSw
          have g1 := below_cell hSw g1'; have g2 := below_cell hSw g2'; have g3 := below_cell hSw g3'; have g4 := below_cell hSw g4'
          go_simp <;> with_reducible rfl
        simp only [List.setIfInBounds_toArray, List.set_cons_succ, List.set_cons_zero]
        refine wpAnyH_takeD (i := 9) (v := ?_) 48 rfl (by kernel_rfl) (by kernel_rfl) (by kernel_rfl) (fun _ _ _ h => h) (Or.inl ⟨by rfl, ?_⟩) (by assumption) rfl ?_
        rotate_left
        · intro w' hSw
          have g1 := below_cell hSw g1'; have g2 := below_cell hSw g2'; have g3 := below_cell hSw g3'; have g4 := below_cell hSw g4'
          go_simp <;> with_reducible rfl
        simp only [List.setIfInBounds_toArray, List.set_cons_succ, List.set_cons_zero]
        refine wpAnyH_takeD (i := 10) (v := ?_) 49 rfl (by kernel_rfl) (by kernel_rfl) (by kernel_rfl) (fun _ _ _ h => h) (Or.inl ⟨by rfl, ?_⟩) (by assumption) rfl ?_
        rotate_left
        · intro w' hSw
          have g1 := below_cell hSw g1'; have g2 := below_cell hSw g2'; have g3 := below_cell hSw g3'; have g4 := below_cell hSw g4'
          go_simp <;> with_reducible rfl
        simp only [List.setIfInBounds_toArray, List.set_cons_succ, List.set_cons_zero]
        refine wpAnyH_takeD (i := 11) (v := ?_) 50 rfl (by kernel_rfl) (by kernel_rfl) (by kernel_rfl) (fun _ _ _ h => h) (Or.inl ⟨by rfl, ?_⟩) (by assumption) rfl ?_
        rotate_left
        · intro w' hSw
          have g1 := below_cell hSw g1'; have g2 := below_cell hSw g2'; have g3 := below_cell hSw g3'; have g4 := below_cell hSw g4'
          go_simp <;> with_reducible rfl
        simp only [List.setIfInBounds_toArray, List.set_cons_succ, List.set_cons_zero]
        refine wpAnyH_takeD (i := 12) (v := ?_) 51 rfl (by kernel_rfl) (by kernel_rfl) (by kernel_rfl) (fun _ _ _ h => h) (Or.inl ⟨by rfl, ?_⟩) (by assumption) rfl ?_
        rotate_left
        · intro w' hSw
          have g1 := below_cell hSw g1'; have g2 := below_cell hSw g2'; have g3 := below_cell hSw g3'; have g4 := below_cell hSw g4'
          go_simp <;> with_reducible rfl
        simp only [List.setIfInBounds_toArray, List.set_cons_succ, List.set_cons_zero]
        refine wpAnyH_takeD (i := 13) (v := ?_) 52 rfl (by kernel_rfl) (by kernel_rfl) (by kernel_rfl) (fun _ _ _ h => h) (Or.inl ⟨by rfl, ?_⟩) (by assumption) rfl ?_
        rotate_left
        · intro w' hSw
          have g1 := below_cell hSw g1'; have g2 := below_cell hSw g2'; have g3 := below_cell hSw g3'; have g4 := below_cell hSw g4'
          go_simp <;> with_reducible rfl
        simp only [List.setIfInBounds_toArray, List.set_cons_succ, List.set_cons_zero]
        refine wpAnyH_takeD (i := 14) (v := ?_) 53 rfl (by kernel_rfl) (by kernel_rfl) (by kernel_rfl) (fun _ _ _ h => h) (Or.inl ⟨by rfl, ?_⟩) (by assumption) rfl ?_
        rotate_left
        · intro w' hSw
          have g1 := below_cell hSw g1'; have g2 := below_cell hSw g2'; have g3 := below_cell hSw g3'; have g4 := below_cell hSw g4'
          go_simp <;> with_reducible rfl
        simp only [List.setIfInBounds_toArray, List.set_cons_succ, List.set_cons_zero]
        refine wpAnyH_takeD (i := 15) (v := ?_) 54 rfl (by kernel_rfl) (by kernel_rfl) (by kernel_rfl) (fun _ _ _ h => h) (Or.inl ⟨by rfl, ?_⟩) (by assumption) rfl ?_
        rotate_left
        · intro w' hSw
          have g1 := below_cell hSw g1'; have g2 := below_cell hSw g2'; have g3 := below_cell hSw g3'; have g4 := below_cell hSw g4'
          go_simp <;> with_reducible rfl
        simp only [List.setIfInBounds_toArray, List.set_cons_succ, List.set_cons_zero]
        refine wpAnyH_takeD (i := 16) (v := ?_) 55 rfl (by kernel_rfl) (by kernel_rfl) (by kernel_rfl) (fun _ _ _ h => h) (Or.inl ⟨by rfl, ?_⟩) (by assumption) rfl ?_
        rotate_left
        · intro w' hSw
          have g1 := below_cell hSw g1'; have g2 := below_cell hSw g2'; have g3 := below_cell hSw g3'; have g4 := below_cell hSw g4'
          go_simp <;> with_reducible rfl
        simp only [List.setIfInBounds_toArray, List.set_cons_succ, List.set_cons_zero]
        refine wpAnyH_takeD (i := 17) (v := ?_) 56 rfl (by kernel_rfl) (by kernel_rfl) (by kernel_rfl) (fun _ _ _ h => h) (Or.inl ⟨by rfl, ?_⟩) (by assumption) rfl ?_
        rotate_left
        · intro w' hSw
          have g1 := below_cell hSw g1'; have g2 := below_cell hSw g2'; have g3 := below_cell hSw g3'; have g4 := below_cell hSw g4'
          go_simp <;> with_reducible rfl
        simp only [List.setIfInBounds_toArray, List.set_cons_succ, List.set_cons_zero]
        refine wpAnyH_takeD (i := 18) (v := ?_) 57 rfl (by kernel_rfl) (by kernel_rfl) (by kernel_rfl) (fun _ _ _ h => h) (Or.inl ⟨by rfl, ?_⟩) (by assumption) rfl ?_
        rotate_left
        · intro w' hSw
          have g1 := below_cell hSw g1'; have g2 := below_cell hSw g2'; have g3 := below_cell hSw g3'; have g4 := below_cell hSw g4'
          go_simp <;> with_reducible rfl
        simp only [List.setIfInBounds_toArray, List.set_cons_succ, List.set_cons_zero]
        refine wpAnyH_takeD (i := 19) (v := ?_) 58 rfl (by kernel_rfl) (by kernel_rfl) (by kernel_rfl) (fun _ _ _ h => h) (Or.inl ⟨by rfl, ?_⟩) (by assumption) rfl ?_
        rotate_left
        · intro w' hSw
          have g1 := below_cell hSw g1'; have g2 := below_cell hSw g2'; have g3 := below_cell hSw g3'; have g4 := below_cell hSw g4'
          go_simp <;> with_reducible rfl
        simp only [List.setIfInBounds_toArray, List.set_cons_succ, List.set_cons_zero]
        refine wpAnyH_takeD (i := 20) (v := ?_) 59 rfl (by kernel_rfl) (by kernel_rfl) (by kernel_rfl) (fun _ _ _ h => h) (Or.inl ⟨by rfl, ?_⟩) (by assumption) rfl ?_
        rotate_left
        · intro w' hSw
          have g1 := below_cell hSw g1'; have g2 := below_cell hSw g2'; have g3 := below_cell hSw g3'; have g4 := below_cell hSw g4'
          go_simp <;> with_reducible rfl
        simp only [List.setIfInBounds_toArray, List.set_cons_succ, List.set_cons_zero]
        refine wpAnyH_takeD (i := 21) (v := ?_) 60 rfl (by kernel_rfl) (by kernel_rfl) (by kernel_rfl) (fun _ _ _ h => h) (Or.inl ⟨by rfl, ?_⟩) (by assumption) rfl ?_
        rotate_left
        · intro w' hSw
          have g1 := below_cell hSw g1'; have g2 := below_cell hSw g2'; have g3 := below_cell hSw g3'; have g4 := below_cell hSw g4'
          go_simp <;> with_reducible rfl
        simp only [List.setIfInBounds_toArray, List.set_cons_succ, List.set_cons_zero]
        refine wpAnyH_takeD (i := 22) (v := ?_) 61 rfl (by kernel_rfl) (by kernel_rfl) (by kernel_rfl) (fun _ _ _ h => h) (Or.inl ⟨by rfl, ?_⟩) (by assumption) rfl ?_
        rotate_left
        · intro w' hSw
          have g1 := below_cell hSw g1'; have g2 := below_cell hSw g2'; have g3 := below_cell hSw g3'; have g4 := below_cell hSw g4'
          go_simp <;> with_reducible rfl
        simp only [List.setIfInBounds_toArray, List.set_cons_succ, List.set_cons_zero]
        refine wpAnyH_takeD (i := 23) (v := ?_) 62 rfl (by kernel_rfl) (by kernel_rfl) (by kernel_rfl) (fun _ _ _ h => h) (Or.inl ⟨by rfl, ?_⟩) (by assumption) rfl ?_
        rotate_left
        · intro w' hSw
          have g1 := below_cell hSw g1'; have g2 := below_cell hSw g2'; have g3 := below_cell hSw g3'; have g4 := below_cell hSw g4'
          go_simp <;> with_reducible rfl
        simp only [List.setIfInBounds_toArray, List.set_cons_succ, List.set_cons_zero]
        refine wpAnyH_takeD (i := 24) (v := ?_) 63 rfl (by kernel_rfl) (by kernel_rfl) (by kernel_rfl) (fun _ _ _ h => h) (Or.inl ⟨by rfl, ?_⟩) (by assumption) rfl ?_
        rotate_left
        · intro w' hSw
          have g1 := below_cell hSw g1'; have g2 := below_cell hSw g2'; have g3 := below_cell hSw g3'; have g4 := below_cell hSw g4'
          go_simp <;> with_reducible rfl
        simp only [List.setIfInBounds_toArray, List.set_cons_succ, List.set_cons_zero]
        refine wpAnyH_takeD (i := 25) (v := ?_) 64 rfl (by kernel_rfl) (by kernel_rfl) (by kernel_rfl) (fun _ _ _ h => h) (Or.inl ⟨by rfl, ?_⟩) (by assumption) rfl ?_
        rotate_left
        · intro w' hSw
          have g1 := below_cell hSw g1'; have g2 := below_cell hSw g2'; have g3 := below_cell hSw g3'; have g4 := below_cell hSw g4'
          go_simp <;> with_reducible rfl
        simp only [List.setIfInBounds_toArray, List.set_cons_succ, List.set_cons_zero]
        refine wpAnyH_takeD (i := 26) (v := ?_) 65 rfl (by kernel_rfl) (by kernel_rfl) (by kernel_rfl) (fun _ _ _ h => h) (Or.inl ⟨by rfl, ?_⟩) (by assumption) rfl ?_
        rotate_left
        · intro w' hSw
          have g1 := below_cell hSw g1'; have g2 := below_cell hSw g2'; have g3 := below_cell hSw g3'; have g4 := below_cell hSw g4'
          go_simp <;> with_reducible rfl
        simp only [List.setIfInBounds_toArray, List.set_cons_succ, List.set_cons_zero]
        refine wpAnyH_takeD (i := 27) (v := ?_) 66 rfl (by kernel_rfl) (by kernel_rfl) (by kernel_rfl) (fun _ _ _ h => h) (Or.inl ⟨by rfl, ?_⟩) (by assumption) rfl ?_
        rotate_left
        · intro w' hSw
          have g1 := below_cell hSw g1'; have g2 := below_cell hSw g2'; have g3 := below_cell hSw g3'; have g4 := below_cell hSw g4'
          go_simp <;> with_reducible rfl
        simp only [List.setIfInBounds_toArray, List.set_cons_succ, List.set_cons_zero]
        have HO1 : Hid (wr.drew.ownsRow w2.heap.size 35 4 (.slice A7 k c7) k (livesV E k)) := Lib.hid HO.out.drew
        have HW1 : Hid (Below w2.heap.size w2 wr.drew) := Lib.hid (below_drew HW.out)
        clear HO HW g1' g2' g3' g4' n1 n3
        generalize wr.drew = W1 at *
        have HSa := Lib.hid (Sl.new (s := 4) W1 35 1 1 #[.int .i64 (-q1), .int .i64 q2, .int .i64 (-q3), .int .i64 q4] rfl (Nat.le_refl _) (by decide))
        refine wpAnyH_ready (rs := [28]) (by kernel_rfl) (by simp) ?_
        refine AllReadyH.cons (o := _) rfl (fun K hK => ?_) AllReadyH.nil
        go_simp
        refine hK.out _ _ (HW1.out.alloc HW1.out.size _) (fun hHeld2 => ?_)
        clear hK K
        refine wpAnyH_ready (rs := [29]) (by kernel_rfl) (by simp) ?_
        refine AllReadyH.cons (o := _) rfl (fun K hK => ?_) AllReadyH.nil
        refine stepLife (.tmp 39) (.tmp 67) rfl rfl (by rfl) (by rfl) (HO1.out.alloc (.cells #[.int .i64 (-q1), .int .i64 q2, .int .i64 (-q3), .int .i64 q4] 35)) HSa.out (life_one _ _ _ _) (N := k + 1) (by simp; omega) (by omega) (by have := HW1.out.size; simp; omega) ?_
        intro A5 c5 w5 hap
        have HB1 := Lib.hid (below_of_own hap.grown (HO1.out.alloc (.cells #[.int .i64 (-q1), .int .i64 q2, .int .i64 (-q3), .int .i64 q4] 35)) (HW1.out.alloc HW1.out.size (.cells #[.int .i64 (-q1), .int .i64 q2, .int .i64 (-q3), .int .i64 q4] 35)) (Nat.le_refl _))
        have hO := hap.own
        clear hap
        go_simp
        refine hK.out _ _ HB1.out (fun hHeld3 => ?_)
        clear hK K
        refine wpAnyH_takeD (i := 30) (v := ?_) 7 rfl (by kernel_rfl) (by kernel_rfl) (by kernel_rfl) (fun _ _ _ h => h) (Or.inl ⟨by rfl, ?_⟩) (by assumption) rfl ?_
        rotate_left
        · intro w' hSw
          go_simp <;> with_reducible rfl
        simp only [List.setIfInBounds_toArray, List.set_cons_succ, List.set_cons_zero]
        refine wpAnyH_done (by kernel_rfl) ?_ _
        go_wp2
        go_roundw
        case rel => exact ⟨k + 1, by go_num, by omega, by rw [HLs.out]; exact hO, HB1.out⟩
        case measure => simp [intOf]; omega
      · have hkn : k = ps.length := by omega
        have HKn := Lib.hid hkn
        have HF := Lib.hid (show Below w.heap.size w wr from HB2.out.trans (HW.out.mono HB2.out.size))
        clear hkn hk
        go_wp2
        go_ret2
        exact ⟨HF.out, _, by rw [HE.out, HQ.out]; rfl, by rw [HLv.out, HQ.out, ← HKn.out]; exact Sl.of_own HO.out⟩
set_option maxHeartbeats 1000000 in
theorem rlives_bad (r : Int) (hr : r = 3 ∨ r = 100) (A : Option Addr) (n c : Nat) (F : Option Addr) (m d : Nat) (ps : List ByteArray) (fs : List Fa) (w : World) (h : NetC w A n c F m d ps fs) (hs : Short ps) (hc : checkF ps fs = r) :
    Calls Tryd.prog 20 #[.agg #[.slice A n c, .slice F m d]] w (LivP r [] w) := by
  have hb0 := below_alloc' w (.cells #[.slice A n c, .slice F m d] 25)
  have HK := Lib.hid (rcheck_is hc _ (h.below hb0) hs)
  clear h hs hc
  rcases hr with rfl | rfl
  all_goals
    go_enter Tryd.func20, Tryd.ntmps20
    go_wp2_with fail
    refine HK.out.mono ?_
    rintro e w1 ⟨rfl, hb1⟩
    have HB := Lib.hid (hb0.trans (hb1.mono hb0.size))
    clear hb0 hb1
    go_wp2
    go_ret2
    exact ⟨HB.out, _, rfl, Sl.nil0 _ _⟩
theorem rlives_any (A : Option Addr) (n c : Nat) (F : Option Addr) (m d : Nat) (ps : List ByteArray) (fs : List Fa) (w : World) (h : NetC w A n c F m d ps fs) (hs : Short ps) :
    Calls Tryd.prog 20 #[.agg #[.slice A n c, .slice F m d]] w (LivP (livE ps fs) (livL ps fs) w) := by
  rcases checkF_cases ps fs with hc | hc | ⟨hc, hp, hfew, _, hf⟩
  · have := rlives_bad 3 (.inl rfl) A n c F m d ps fs w h hs hc
    unfold livE livL
    rw [hc, if_pos (by decide), if_pos (by decide)]
    exact this
  · have := rlives_bad 100 (.inr rfl) A n c F m d ps fs w h hs hc
    unfold livE livL
    rw [hc, if_pos (by decide), if_pos (by decide)]
    exact this
  · exact rlives_good A n c F m d ps fs w h hs hc hp hfew hf
end
end Go.Proofs.YtdmcopjbckelmaaDoor
