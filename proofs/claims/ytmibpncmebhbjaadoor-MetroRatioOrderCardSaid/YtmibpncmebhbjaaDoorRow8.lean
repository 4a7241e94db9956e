/- MetroRatioOrder: the walk. -/
import Derived.Test.YtmibpncmebhbjaaDoorP10
import Derived.Test.YtmibpncmebhbjaaDoorOrd1
namespace Go.Proofs.YtmibpncmebhbjaaDoor
open Go Go.RowKit Go.Shelf
attribute [local go_sem] Oper.semAt_some rrV

theorem ratioF_isR {n d : Int} (h : ((ratioF n d).e == 0) = true) : isR (ratioF n d).n (ratioF n d).d = true := by
  have h' : (ratioF n d).e = 0 := by simpa using h
  unfold ratioF at h' ⊢
  split at h'
  · simp at h'
  · next hd => rw [if_neg hd]; exact (fit_isR h').1
theorem isR_Bd {N D : Int} (h : isR N D = true) : Bd N ∧ Bd D := by
  have := isR_bd h
  unfold Bd; omega

set_option maxRecDepth 100000 in
set_option maxHeartbeats 1000000 in
theorem ratioOrder_any (a0 b0 a1 b1 a2 b2 : Int) (w : World) (hz : Zw w) (ha0 : Bd a0) (hb0 : Bd b0) (ha1 : Bd a1) (hb1 : Bd b1) (ha2 : Bd a2) (hb2 : Bd b2) :
    Calls Tryd.prog 7 #[.agg #[.int .i64 a0, .int .i64 b0], .agg #[.int .i64 a1, .int .i64 b1], .agg #[.int .i64 a2, .int .i64 b2]] w fun e w' => e = .returned (.bool true) ∧ Below w.heap.size w w' := by
  have Y0 := ((Cel.new w 68 #[.int .i64 a0, .int .i64 b0]).alloc (.cells #[.int .i64 a1, .int .i64 b1] 68)).alloc (.cells #[.int .i64 a2, .int .i64 b2] 68)
  have Y1 := (Cel.at (w.alloc (.cells #[.int .i64 a0, .int .i64 b0] 68)) (w.heap.size + 1) 68 #[.int .i64 a1, .int .i64 b1] (by simp)).alloc (.cells #[.int .i64 a2, .int .i64 b2] 68)
  have Y2 := Cel.at ((w.alloc (.cells #[.int .i64 a0, .int .i64 b0] 68)).alloc (.cells #[.int .i64 a1, .int .i64 b1] 68)) (w.heap.size + 1 + 1) 68 #[.int .i64 a2, .int .i64 b2] (by simp)
  have hw0 : Below w.heap.size w (((w.alloc (.cells #[.int .i64 a0, .int .i64 b0] 68)).alloc (.cells #[.int .i64 a1, .int .i64 b1] 68)).alloc (.cells #[.int .i64 a2, .int .i64 b2] 68)) := ((below_alloc' _ _).alloc (by simp) _).alloc (by simp; omega) _
  obtain ⟨W, hW⟩ : ∃ W, ((w.alloc (.cells #[.int .i64 a0, .int .i64 b0] 68)).alloc (.cells #[.int .i64 a1, .int .i64 b1] 68)).alloc (.cells #[.int .i64 a2, .int .i64 b2] 68) = W := ⟨_, rfl⟩
  rw [hW] at Y0 Y1 Y2 hw0
  have HK : Hid (∀ w', Below W.heap.size W w' → w'.cell? ⟨w.heap.size, 0, none⟩ = some (.int .i64 a0) ∧ w'.cell? ⟨w.heap.size, 1, none⟩ = some (.int .i64 b0) ∧ w'.cell? ⟨w.heap.size + 1, 0, none⟩ = some (.int .i64 a1) ∧ w'.cell? ⟨w.heap.size + 1, 1, none⟩ = some (.int .i64 b1) ∧ w'.cell? ⟨w.heap.size + 1 + 1, 0, none⟩ = some (.int .i64 a2) ∧ w'.cell? ⟨w.heap.size + 1 + 1, 1, none⟩ = some (.int .i64 b2)) := fun w' hb =>
    ⟨(Y0.below Y0.lt hb).cell 0 _ rfl, (Y0.below Y0.lt hb).cell 1 _ rfl, (Y1.below Y1.lt hb).cell 0 _ rfl, (Y1.below Y1.lt hb).cell 1 _ rfl, (Y2.below Y2.lt hb).cell 0 _ rfl, (Y2.below Y2.lt hb).cell 1 _ rfl⟩
  have HW := Lib.hid hw0
  have HZ : Hid (∀ w', Below W.heap.size W w' → Zw w') := fun w' hb => (hz.below hw0).below hb
  obtain ⟨c0, c1, c2, c3, c4, c5⟩ := HK.out W (Below.refl _ _)
  have R1 := Lib.hid (fun w' (hb : Below W.heap.size W w') => lawratio_any a0 b0 w' (HZ.out w' hb) ha0.1 ha0.2 hb0.1 hb0.2)
  have R2 := Lib.hid (fun w' (hb : Below W.heap.size W w') => lawratio_any a1 b1 w' (HZ.out w' hb) ha1.1 ha1.2 hb1.1 hb1.2)
  have R3 := Lib.hid (fun w' (hb : Below W.heap.size W w') => lawratio_any a2 b2 w' (HZ.out w' hb) ha2.1 ha2.2 hb2.1 hb2.2)
  have I1 := Lib.hid (fun h => ratioF_isR (n := a0) (d := b0) h)
  have I2 := Lib.hid (fun h => ratioF_isR (n := a1) (d := b1) h)
  have I3 := Lib.hid (fun h => ratioF_isR (n := a2) (d := b2) h)
  have C9 : Hid (∀ w', Below W.heap.size W w' → Calls Tryd.prog 27 #[] w' fun e w'' => e = .returned (.bool true) ∧ Below w'.heap.size w' w'') := fun w' hb => works_any w' (HZ.out w' hb)
  clear Y0 Y1 Y2 hw0 hz ha0 hb0 ha1 hb1 ha2 hb2
  generalize ratioF a0 b0 = r1 at *
  generalize ratioF a1 b1 = r2 at *
  generalize ratioF a2 b2 = r3 at *
  obtain ⟨N, D, x1⟩ := r1
  obtain ⟨M, E, x2⟩ := r2
  obtain ⟨P, F, x3⟩ := r3
  simp only at R1 R2 R3 I1 I2 I3
  generalize (x1 == 0) = p1 at *
  generalize (x2 == 0) = p2 at *
  generalize (x3 == 0) = p3 at *
  go_enter Tryd.func7, Tryd.ntmps7
  go_upto_region 4 with (first
    | (go_at_call_of 46 (Value.int .i64 a0); refine (R1.out _ (Below.refl _ _)).mono ?_; rintro e w1 ⟨rfl, hb⟩; have HB1 := Lib.hid (hb.alloc hb.size (.cells #[.int .i64 N, .int .i64 D] 23)); have HY1 := Lib.hid (Cel.new w1 23 #[.int .i64 N, .int .i64 D]); clear hb c0 c1 c2 c3 c4 c5; obtain ⟨c0, c1, c2, c3, c4, c5⟩ := HK.out _ HB1.out)
    | (go_at_call_of 46 (Value.int .i64 a1); refine (R2.out _ HB1.out).mono ?_; rintro e w2 ⟨rfl, hb⟩; have hB := HB1.out.trans (hb.mono HB1.out.size); have HB2 := Lib.hid (hB.alloc hB.size (.cells #[.int .i64 M, .int .i64 E] 23)); have HX1 := Lib.hid ((HY1.out.below HY1.out.lt hb).alloc (.cells #[.int .i64 M, .int .i64 E] 23)); have HY2 := Lib.hid (Cel.new w2 23 #[.int .i64 M, .int .i64 E]); clear hB hb c0 c1 c2 c3 c4 c5; obtain ⟨c0, c1, c2, c3, c4, c5⟩ := HK.out _ HB2.out)
    | (go_at_call_of 46 (Value.int .i64 a2); refine (R3.out _ HB2.out).mono ?_; rintro e w3 ⟨rfl, hb⟩; have hB := HB2.out.trans (hb.mono HB2.out.size); have HB3 := Lib.hid (hB.alloc hB.size (.cells #[.int .i64 P, .int .i64 F] 23)); have HX2 := Lib.hid ((HX1.out.below HX1.out.lt hb).alloc (.cells #[.int .i64 P, .int .i64 F] 23)); have HX3 := Lib.hid ((HY2.out.below HY2.out.lt hb).alloc (.cells #[.int .i64 P, .int .i64 F] 23)); have HY3 := Lib.hid (Cel.new w3 23 #[.int .i64 P, .int .i64 F]); clear hB hb c0 c1 c2 c3 c4 c5))
  obtain ⟨V, hV⟩ : ∃ V, w3.alloc (.cells #[.int .i64 P, .int .i64 F] 23) = V := ⟨_, rfl⟩
  rw [hV] at HB3 HX2 HX3 HY3 ⊢
  clear hV
  cases p1 with
  | false =>
    go_wp2_with (go_at_call 27; refine (C9.out _ HB3.out).mono ?_; rintro e w4 ⟨rfl, hb⟩)
    go_ret
    exact ⟨rfl, below_then HW.out (below_then HB3.out hb)⟩
  | true =>
    cases p2 with
    | false =>
      go_wp2_with (go_at_call 27; refine (C9.out _ HB3.out).mono ?_; rintro e w4 ⟨rfl, hb⟩)
      go_ret
      exact ⟨rfl, below_then HW.out (below_then HB3.out hb)⟩
    | true =>
      cases p3 with
      | false =>
        go_wp2_with (go_at_call 27; refine (C9.out _ HB3.out).mono ?_; rintro e w4 ⟨rfl, hb⟩)
        go_ret
        exact ⟨rfl, below_then HW.out (below_then HB3.out hb)⟩
      | true =>
        have i1 := I1.out rfl
        have i2 := I2.out rfl
        have i3 := I3.out rfl
        obtain ⟨bN, bD⟩ := isR_Bd i1
        obtain ⟨bM, bE⟩ := isR_Bd i2
        obtain ⟨bP, bF⟩ := isR_Bd i3
        have HKV : Hid (∀ w', Below V.heap.size V w' → w'.cell? ⟨w1.heap.size, 0, none⟩ = some (.int .i64 N) ∧ w'.cell? ⟨w1.heap.size, 1, none⟩ = some (.int .i64 D) ∧ w'.cell? ⟨w2.heap.size, 0, none⟩ = some (.int .i64 M) ∧ w'.cell? ⟨w2.heap.size, 1, none⟩ = some (.int .i64 E) ∧ w'.cell? ⟨w3.heap.size, 0, none⟩ = some (.int .i64 P) ∧ w'.cell? ⟨w3.heap.size, 1, none⟩ = some (.int .i64 F)) := fun w' hb =>
          ⟨(HX2.out.below HX2.out.lt hb).cell 0 _ rfl, (HX2.out.below HX2.out.lt hb).cell 1 _ rfl, (HX3.out.below HX3.out.lt hb).cell 0 _ rfl, (HX3.out.below HX3.out.lt hb).cell 1 _ rfl, (HY3.out.below HY3.out.lt hb).cell 0 _ rfl, (HY3.out.below HY3.out.lt hb).cell 1 _ rfl⟩
        have K1 : Hid (∀ w', Calls Tryd.prog 47 #[.agg #[.int .i64 N, .int .i64 D], .agg #[.int .i64 M, .int .i64 E]] w' fun e w'' => e = .returned (.tuple #[.int .i64 (sgQ (rat N D) (rat M E)), .int .i64 0]) ∧ Below w'.heap.size w' w'') := fun w' => by
          have := cmp_any N D M E w' bN bD bM bE
          rwa [(cmpV_rat i1 i2).1, (cmpV_rat i1 i2).2] at this
        have K2 : Hid (∀ w', Calls Tryd.prog 47 #[.agg #[.int .i64 M, .int .i64 E], .agg #[.int .i64 N, .int .i64 D]] w' fun e w'' => e = .returned (.tuple #[.int .i64 (sgQ (rat M E) (rat N D)), .int .i64 0]) ∧ Below w'.heap.size w' w'') := fun w' => by
          have := cmp_any M E N D w' bM bE bN bD
          rwa [(cmpV_rat i2 i1).1, (cmpV_rat i2 i1).2] at this
        have K3 : Hid (∀ w', Calls Tryd.prog 47 #[.agg #[.int .i64 M, .int .i64 E], .agg #[.int .i64 P, .int .i64 F]] w' fun e w'' => e = .returned (.tuple #[.int .i64 (sgQ (rat M E) (rat P F)), .int .i64 0]) ∧ Below w'.heap.size w' w'') := fun w' => by
          have := cmp_any M E P F w' bM bE bP bF
          rwa [(cmpV_rat i2 i3).1, (cmpV_rat i2 i3).2] at this
        have K4 : Hid (∀ w', Calls Tryd.prog 47 #[.agg #[.int .i64 N, .int .i64 D], .agg #[.int .i64 P, .int .i64 F]] w' fun e w'' => e = .returned (.tuple #[.int .i64 (sgQ (rat N D) (rat P F)), .int .i64 0]) ∧ Below w'.heap.size w' w'') := fun w' => by
          have := cmp_any N D P F w' bN bD bP bF
          rwa [(cmpV_rat i1 i3).1, (cmpV_rat i1 i3).2] at this
        have K5 : Hid (∀ w', Below W.heap.size W w' → Calls Tryd.prog 39 #[.agg #[.int .i64 N, .int .i64 D], .agg #[.int .i64 P, .int .i64 F]] w' fun e w'' => e = .returned (rrV (fit (rat N D + rat P F))) ∧ Below w'.heap.size w' w'') := fun w' hb => by
          have := add_any N D P F w' (HZ.out w' hb) bN bD bP bF
          rwa [opF_yes i1 i3] at this
        have K6 : Hid (∀ w', Below W.heap.size W w' → Calls Tryd.prog 39 #[.agg #[.int .i64 M, .int .i64 E], .agg #[.int .i64 P, .int .i64 F]] w' fun e w'' => e = .returned (rrV (fit (rat M E + rat P F))) ∧ Below w'.heap.size w' w'') := fun w' hb => by
          have := add_any M E P F w' (HZ.out w' hb) bM bE bP bF
          rwa [opF_yes i2 i3] at this
        obtain ⟨fi1, fi2, fi3, fi4, fi5⟩ := rat_floor i1
        have K7 : Hid (∀ w', Below W.heap.size W w' → Calls Tryd.prog 48 #[.agg #[.int .i64 N, .int .i64 D]] w' fun e w'' => e = .returned (.tuple #[.int .i64 (N / D), .agg #[.int .i64 (N % D), .int .i64 D], .int .i64 0]) ∧ Below w'.heap.size w' w'') := fun w' hb => by
          have := floor_any N D w' (HZ.out w' hb) bN bD
          rwa [floorV_yes i1] at this
        have K8 : Hid (∀ w', Below W.heap.size W w' → Calls Tryd.prog 39 #[.agg #[.int .i64 (N / D), .int .i64 1], .agg #[.int .i64 (N % D), .int .i64 D]] w' fun e w'' => e = .returned (.tuple #[.agg #[.int .i64 N, .int .i64 D], .int .i64 0]) ∧ Below w'.heap.size w' w'') := fun w' hb => by
          have := add_any (N / D) 1 (N % D) D w' (HZ.out w' hb) (isR_Bd fi1).1 (isR_Bd fi1).2 (isR_Bd fi2).1 (isR_Bd fi2).2
          rw [opF_yes fi1 fi2, fi3, fit_rat i1] at this
          exact this
        have HSS : Hid (∀ w', (fit (rat N D + rat P F)).e = 0 → (fit (rat M E + rat P F)).e = 0 → Calls Tryd.prog 47 #[.agg #[.int .i64 (fit (rat N D + rat P F)).n, .int .i64 (fit (rat N D + rat P F)).d], .agg #[.int .i64 (fit (rat M E + rat P F)).n, .int .i64 (fit (rat M E + rat P F)).d]] w' fun e w'' => e = .returned (.tuple #[.int .i64 (sgQ (rat N D) (rat M E)), .int .i64 0]) ∧ Below w'.heap.size w' w'') := fun w' h1 h2 => by
          obtain ⟨j1, j2⟩ := fit_isR h1
          obtain ⟨j3, j4⟩ := fit_isR h2
          have := cmp_any _ _ _ _ w' (isR_Bd j1).1 (isR_Bd j1).2 (isR_Bd j3).1 (isR_Bd j3).2
          rwa [(cmpV_rat j1 j3).1, (cmpV_rat j1 j3).2, j2, j4, sgQ_add] at this
        have HSA : Hid (∀ w', Calls Tryd.prog 47 #[.agg #[.int .i64 (fit (rat N D + rat P F)).n, .int .i64 (fit (rat N D + rat P F)).d], .agg #[.int .i64 (fit (rat M E + rat P F)).n, .int .i64 (fit (rat M E + rat P F)).d]] w' fun e w'' => ∃ v g, e = .returned (.tuple #[.int .i64 v, .int .i64 g]) ∧ Below w'.heap.size w' w'') := fun w' =>
          (cmp_any _ _ _ _ w' (fit_bd _).1 (fit_bd _).2.1 (fit_bd _).1 (fit_bd _).2.1).mono fun e w'' h => ⟨_, _, h.1, h.2⟩
        have hkind := sgQ_kinds (rat N D) (rat M E)
        have hinj := fun e => rat_inj i1 i2 e
        have htr := fun h1 h2 => sgQ_trans (p := rat N D) (q := rat M E) (r := rat P F) h1 h2
        clear i1 i2 i3 bN bD bM bE bP bF fi1 fi2 fi3 I1 I2 I3 R1 R2 R3 HX1 HY1 HY2 HK
        have HKIND := Lib.hid (show (sgQ (rat N D) (rat M E) = -1 ∧ sgQ (rat M E) (rat N D) = 1 ∧ ¬ (N = M ∧ D = E)) ∨ ((N = M ∧ D = E) ∧ sgQ (rat N D) (rat M E) = 0 ∧ sgQ (rat M E) (rat N D) = 0) ∨ (sgQ (rat N D) (rat M E) = 1 ∧ sgQ (rat M E) (rat N D) = -1 ∧ ¬ (N = M ∧ D = E)) from
          hkind.elim (fun h => .inl ⟨h.2.1, h.2.2, fun e => by have h1 := h.1; rw [e.1, e.2] at h1; exact absurd h1 Rat.lt_irrefl⟩) (fun h => h.elim (fun h => .inr (.inl ⟨hinj h.1, h.2.1, h.2.2⟩)) (fun h => .inr (.inr ⟨h.2.1, h.2.2, fun e => by have h1 := h.1; rw [e.1, e.2] at h1; exact absurd h1 Rat.lt_irrefl⟩))))
        have HTR := Lib.hid htr
        clear hkind hinj htr
        generalize fit (rat N D + rat P F) = sr at *
        generalize fit (rat M E + rat P F) = ur at *
        generalize sgQ (rat N D) (rat M E) = m at *
        generalize sgQ (rat M E) (rat N D) = n at *
        generalize sgQ (rat M E) (rat P F) = o at *
        generalize sgQ (rat N D) (rat P F) = t at *
        obtain ⟨sN, sD, sE⟩ := sr
        obtain ⟨uN, uD, uE⟩ := ur
        simp only at HSS HSA K5 K6
        obtain ⟨g0, g1, g2, g3, g4, g5⟩ := HKV.out V (Below.refl _ _)
        go_upto_region 10 with (first
          | (go_at_call 47; (with_reducible refine (K1.out _).mono ?_); rintro e w4 ⟨rfl, hb4⟩; clear g0 g1 g2 g3 g4 g5; obtain ⟨g0, g1, g2, g3, g4, g5⟩ := HKV.out _ hb4)
          | (go_at_call 47; (with_reducible refine (K2.out _).mono ?_); rintro e w5 ⟨rfl, hb⟩; have hb5 := below_then hb4 hb; clear hb g0 g1 g2 g3 g4 g5; obtain ⟨g0, g1, g2, g3, g4, g5⟩ := HKV.out _ hb5)
          | (go_at_call 47; (with_reducible refine (K3.out _).mono ?_); rintro e w6 ⟨rfl, hb⟩; have hb6 := below_then hb5 hb; clear hb g0 g1 g2 g3 g4 g5; obtain ⟨g0, g1, g2, g3, g4, g5⟩ := HKV.out _ hb6)
          | (go_at_call 47; (with_reducible refine (K4.out _).mono ?_); rintro e w7 ⟨rfl, hb⟩; have hb7 := below_then hb6 hb; clear hb g0 g1 g2 g3 g4 g5; obtain ⟨g0, g1, g2, g3, g4, g5⟩ := HKV.out _ hb7))
        go_cut [134] (fun s134 wx => s134 = .bool false ∧ wx = w7)
        case first =>
          clear HSS HSA K1 K2 K3 K4 K5 K6 K7 K8 HKV C9 HZ
          rcases HKIND.out with ⟨rfl, rfl, hne⟩ | ⟨⟨rfl, rfl⟩, rfl, rfl⟩ | ⟨rfl, rfl, hne⟩
          · by_cases hNM : N = M
            · have hDE : (D == E) = false := by simpa using fun e => hne ⟨hNM, e⟩
              have hNM' : (N == M) = true := by simpa using hNM
              clear hNM hne
              by_cases ho : o ≤ 0
              · have ht := HTR.out (by decide) ho
                have d1 : decide (o ≤ 0) = true := decide_eq_true ho
                have d2 : decide (0 < t) = false := decide_eq_false (by omega)
                go_wp2
                go_meet
                exact ⟨rfl, rfl⟩
              · have d1 : decide (o ≤ 0) = false := decide_eq_false ho
                go_wp2
                go_meet
                exact ⟨rfl, rfl⟩
            · have hNM' : (N == M) = false := by simpa using hNM
              clear hNM hne
              by_cases ho : o ≤ 0
              · have ht := HTR.out (by decide) ho
                have d1 : decide (o ≤ 0) = true := decide_eq_true ho
                have d2 : decide (0 < t) = false := decide_eq_false (by omega)
                go_wp2
                go_meet
                exact ⟨rfl, rfl⟩
              · have d1 : decide (o ≤ 0) = false := decide_eq_false ho
                go_wp2
                go_meet
                exact ⟨rfl, rfl⟩
          · by_cases ho : o ≤ 0
            · have ht := HTR.out (by decide) ho
              have d1 : decide (o ≤ 0) = true := decide_eq_true ho
              have d2 : decide (0 < t) = false := decide_eq_false (by omega)
              go_wp2
              go_meet
              exact ⟨rfl, rfl⟩
            · have d1 : decide (o ≤ 0) = false := decide_eq_false ho
              go_wp2
              go_meet
              exact ⟨rfl, rfl⟩
          · by_cases hNM : N = M
            · have hDE : (D == E) = false := by simpa using fun e => hne ⟨hNM, e⟩
              have hNM' : (N == M) = true := by simpa using hNM
              clear hNM hne
              go_wp2
              go_meet
              exact ⟨rfl, rfl⟩
            · have hNM' : (N == M) = false := by simpa using hNM
              clear hNM hne
              go_wp2
              go_meet
              exact ⟨rfl, rfl⟩
        case rest =>
          obtain ⟨rfl, rfl⟩ := hcut
          have HB7 := Lib.hid (HB3.out.trans (hb7.mono HB3.out.size))
          have dk1 : decide (0 ≤ N % D) = true := decide_eq_true fi4
          have dk2 : decide (N % D < D) = true := decide_eq_true fi5
          clear K1 K2 K3 K4 HKIND HTR
          by_cases hs : sE = 0
          · by_cases hu : uE = 0
            · have HSQ := Lib.hid (fun w' => HSS.out w' hs hu)
              have ds : (sE == 0) = true := by simpa using hs
              have du : (uE == 0) = true := by simpa using hu
              clear hs hu HSS HSA
              go_wp2_with (first
                | (go_at_call 39; (with_reducible refine (K5.out _ HB7.out).mono ?_); rintro e w8 ⟨rfl, hb⟩; have hb8 := (below_then hb7 hb).alloc (below_then hb7 hb).size (.cells #[.int .i64 sN, .int .i64 sD] 23); have HY8 := Lib.hid (Cel.new w8 23 #[.int .i64 sN, .int .i64 sD]); clear hb g0 g1 g2 g3 g4 g5; obtain ⟨g0, g1, g2, g3, g4, g5⟩ := HKV.out _ hb8)
                | (go_at_call 39; (with_reducible refine (K6.out _ (HB3.out.trans (hb8.mono HB3.out.size))).mono ?_); rintro e w9 ⟨rfl, hb⟩; have hb9 := (below_then hb8 hb).alloc (below_then hb8 hb).size (.cells #[.int .i64 uN, .int .i64 uD] 23); have y8 := (HY8.out.below HY8.out.lt hb).alloc (.cells #[.int .i64 uN, .int .i64 uD] 23); have y9 := Cel.new w9 23 #[.int .i64 uN, .int .i64 uD]; clear hb g0 g1 g2 g3 g4 g5; obtain ⟨g0, g1, g2, g3, g4, g5⟩ := HKV.out _ hb9; have s0 := y8.cell 0 (.int .i64 sN) rfl; have s1 := y8.cell 1 (.int .i64 sD) rfl; have s2 := y9.cell 0 (.int .i64 uN) rfl; have s3 := y9.cell 1 (.int .i64 uD) rfl; clear y8 y9)
                | (go_at_call 47; refine (HSQ.out _).mono ?_; rintro e w10 ⟨rfl, hb⟩; have hb10 := below_then hb9 hb; clear hb s0 s1 s2 s3 g0 g1 g2 g3 g4 g5; obtain ⟨g0, g1, g2, g3, g4, g5⟩ := HKV.out _ hb10)
                | (go_at_call 48; refine (K7.out _ (HB3.out.trans (hb10.mono HB3.out.size))).mono ?_; rintro e w11 ⟨rfl, hb⟩; have hb11 := (below_then hb10 hb).alloc (below_then hb10 hb).size (.cells #[.int .i64 (N % D), .int .i64 D] 23); have HY11 := Lib.hid (Cel.new w11 23 #[.int .i64 (N % D), .int .i64 D]); clear hb g0 g1 g2 g3 g4 g5; have s4 := HY11.out.cell 0 (.int .i64 (N % D)) rfl; have s5 := HY11.out.cell 1 (.int .i64 D) rfl)
                | (go_at_call 39; (with_reducible refine (K8.out _ (HB3.out.trans (hb11.mono HB3.out.size))).mono ?_); rintro e w12 ⟨rfl, hb⟩; have hb12 := (below_then hb11 hb).alloc (below_then hb11 hb).size (.cells #[.int .i64 N, .int .i64 D] 23); have y11 := (HY11.out.below HY11.out.lt hb).alloc (.cells #[.int .i64 N, .int .i64 D] 23); have y12 := Cel.new w12 23 #[.int .i64 N, .int .i64 D]; clear hb s4 s5; obtain ⟨g0, g1, _, _, _, _⟩ := HKV.out _ hb12; have q0 := y11.cell 0 (.int .i64 (N % D)) rfl; have q1 := y11.cell 1 (.int .i64 D) rfl; have q2 := y12.cell 0 (.int .i64 N) rfl; have q3 := y12.cell 1 (.int .i64 D) rfl; clear y11 y12)
                | (go_at_call 27; refine (C9.out _ (HB3.out.trans (hb12.mono HB3.out.size))).mono ?_; rintro e w13 ⟨rfl, hb⟩))
              go_ret
              exact ⟨rfl, below_then HW.out (HB3.out.trans ((below_then hb12 hb).mono HB3.out.size))⟩
            · have ds : (sE == 0) = true := by simpa using hs
              have du : (uE == 0) = false := by simpa using hu
              clear hs hu HSS
              go_wp2_with (first
                | (go_at_call 39; (with_reducible refine (K5.out _ HB7.out).mono ?_); rintro e w8 ⟨rfl, hb⟩; have hb8 := (below_then hb7 hb).alloc (below_then hb7 hb).size (.cells #[.int .i64 sN, .int .i64 sD] 23); have HY8 := Lib.hid (Cel.new w8 23 #[.int .i64 sN, .int .i64 sD]); clear hb g0 g1 g2 g3 g4 g5; obtain ⟨g0, g1, g2, g3, g4, g5⟩ := HKV.out _ hb8)
                | (go_at_call 39; (with_reducible refine (K6.out _ (HB3.out.trans (hb8.mono HB3.out.size))).mono ?_); rintro e w9 ⟨rfl, hb⟩; have hb9 := (below_then hb8 hb).alloc (below_then hb8 hb).size (.cells #[.int .i64 uN, .int .i64 uD] 23); have y8 := (HY8.out.below HY8.out.lt hb).alloc (.cells #[.int .i64 uN, .int .i64 uD] 23); have y9 := Cel.new w9 23 #[.int .i64 uN, .int .i64 uD]; clear hb g0 g1 g2 g3 g4 g5; obtain ⟨g0, g1, g2, g3, g4, g5⟩ := HKV.out _ hb9; have s0 := y8.cell 0 (.int .i64 sN) rfl; have s1 := y8.cell 1 (.int .i64 sD) rfl; have s2 := y9.cell 0 (.int .i64 uN) rfl; have s3 := y9.cell 1 (.int .i64 uD) rfl; clear y8 y9)
                | (go_at_call 47; refine (HSA.out _).mono ?_; rintro e w10 ⟨v, g, rfl, hb⟩; have hb10 := below_then hb9 hb; clear hb s0 s1 s2 s3 g0 g1 g2 g3 g4 g5; obtain ⟨g0, g1, g2, g3, g4, g5⟩ := HKV.out _ hb10)
                | (go_at_call 48; refine (K7.out _ (HB3.out.trans (hb10.mono HB3.out.size))).mono ?_; rintro e w11 ⟨rfl, hb⟩; have hb11 := (below_then hb10 hb).alloc (below_then hb10 hb).size (.cells #[.int .i64 (N % D), .int .i64 D] 23); have HY11 := Lib.hid (Cel.new w11 23 #[.int .i64 (N % D), .int .i64 D]); clear hb g0 g1 g2 g3 g4 g5; have s4 := HY11.out.cell 0 (.int .i64 (N % D)) rfl; have s5 := HY11.out.cell 1 (.int .i64 D) rfl)
                | (go_at_call 39; (with_reducible refine (K8.out _ (HB3.out.trans (hb11.mono HB3.out.size))).mono ?_); rintro e w12 ⟨rfl, hb⟩; have hb12 := (below_then hb11 hb).alloc (below_then hb11 hb).size (.cells #[.int .i64 N, .int .i64 D] 23); have y11 := (HY11.out.below HY11.out.lt hb).alloc (.cells #[.int .i64 N, .int .i64 D] 23); have y12 := Cel.new w12 23 #[.int .i64 N, .int .i64 D]; clear hb s4 s5; obtain ⟨g0, g1, _, _, _, _⟩ := HKV.out _ hb12; have q0 := y11.cell 0 (.int .i64 (N % D)) rfl; have q1 := y11.cell 1 (.int .i64 D) rfl; have q2 := y12.cell 0 (.int .i64 N) rfl; have q3 := y12.cell 1 (.int .i64 D) rfl; clear y11 y12)
                | (go_at_call 27; refine (C9.out _ (HB3.out.trans (hb12.mono HB3.out.size))).mono ?_; rintro e w13 ⟨rfl, hb⟩))
              go_ret
              exact ⟨rfl, below_then HW.out (HB3.out.trans ((below_then hb12 hb).mono HB3.out.size))⟩
          · have ds : (sE == 0) = false := by simpa using hs
            clear hs HSS
            go_wp2_with (first
              | (go_at_call 39; (with_reducible refine (K5.out _ HB7.out).mono ?_); rintro e w8 ⟨rfl, hb⟩; have hb8 := (below_then hb7 hb).alloc (below_then hb7 hb).size (.cells #[.int .i64 sN, .int .i64 sD] 23); have HY8 := Lib.hid (Cel.new w8 23 #[.int .i64 sN, .int .i64 sD]); clear hb g0 g1 g2 g3 g4 g5; obtain ⟨g0, g1, g2, g3, g4, g5⟩ := HKV.out _ hb8)
              | (go_at_call 39; (with_reducible refine (K6.out _ (HB3.out.trans (hb8.mono HB3.out.size))).mono ?_); rintro e w9 ⟨rfl, hb⟩; have hb9 := (below_then hb8 hb).alloc (below_then hb8 hb).size (.cells #[.int .i64 uN, .int .i64 uD] 23); have y8 := (HY8.out.below HY8.out.lt hb).alloc (.cells #[.int .i64 uN, .int .i64 uD] 23); have y9 := Cel.new w9 23 #[.int .i64 uN, .int .i64 uD]; clear hb g0 g1 g2 g3 g4 g5; obtain ⟨g0, g1, g2, g3, g4, g5⟩ := HKV.out _ hb9; have s0 := y8.cell 0 (.int .i64 sN) rfl; have s1 := y8.cell 1 (.int .i64 sD) rfl; have s2 := y9.cell 0 (.int .i64 uN) rfl; have s3 := y9.cell 1 (.int .i64 uD) rfl; clear y8 y9)
              | (go_at_call 47; refine (HSA.out _).mono ?_; rintro e w10 ⟨v, g, rfl, hb⟩; have hb10 := below_then hb9 hb; clear hb s0 s1 s2 s3 g0 g1 g2 g3 g4 g5; obtain ⟨g0, g1, g2, g3, g4, g5⟩ := HKV.out _ hb10)
              | (go_at_call 48; refine (K7.out _ (HB3.out.trans (hb10.mono HB3.out.size))).mono ?_; rintro e w11 ⟨rfl, hb⟩; have hb11 := (below_then hb10 hb).alloc (below_then hb10 hb).size (.cells #[.int .i64 (N % D), .int .i64 D] 23); have HY11 := Lib.hid (Cel.new w11 23 #[.int .i64 (N % D), .int .i64 D]); clear hb g0 g1 g2 g3 g4 g5; have s4 := HY11.out.cell 0 (.int .i64 (N % D)) rfl; have s5 := HY11.out.cell 1 (.int .i64 D) rfl)
              | (go_at_call 39; (with_reducible refine (K8.out _ (HB3.out.trans (hb11.mono HB3.out.size))).mono ?_); rintro e w12 ⟨rfl, hb⟩; have hb12 := (below_then hb11 hb).alloc (below_then hb11 hb).size (.cells #[.int .i64 N, .int .i64 D] 23); have y11 := (HY11.out.below HY11.out.lt hb).alloc (.cells #[.int .i64 N, .int .i64 D] 23); have y12 := Cel.new w12 23 #[.int .i64 N, .int .i64 D]; clear hb s4 s5; obtain ⟨g0, g1, _, _, _, _⟩ := HKV.out _ hb12; have q0 := y11.cell 0 (.int .i64 (N % D)) rfl; have q1 := y11.cell 1 (.int .i64 D) rfl; have q2 := y12.cell 0 (.int .i64 N) rfl; have q3 := y12.cell 1 (.int .i64 D) rfl; clear y11 y12)
              | (go_at_call 27; refine (C9.out _ (HB3.out.trans (hb12.mono HB3.out.size))).mono ?_; rintro e w13 ⟨rfl, hb⟩))
            go_ret
            exact ⟨rfl, below_then HW.out (HB3.out.trans ((below_then hb12 hb).mono HB3.out.size))⟩
end Go.Proofs.YtmibpncmebhbjaaDoor
