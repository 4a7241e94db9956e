/- The walks of metro's Mul and Div, with the closures that calculate. -/
import Derived.Test.YtmibpncmebhbjaaDoorMul2
namespace Go.Proofs.YtmibpncmebhbjaaDoor
open Go Go.RowKit Go.Shelf
attribute [local go_sem] rrV

def mulR (N D M E : Int) : RR := fit (rat N D * rat M E)
def divR (N D M E : Int) : RR := if M = 0 then ⟨0, 0, 9⟩ else fit (rat N D / rat M E)

theorem Sl.ofCel {w : World} {B : Nat} {t : TypeId} {vs : Array Value} (h : Cel w B t vs) (hs : vs.size ≤ 1000 := by simp) : Sl w 1 (.slice (some ⟨B, 0, none⟩) vs.size vs.size) vs.toList :=
  Sl.of_own (own_lit (base := 0) h (Nat.zero_le _) (by simp) (by unfold maxLen; omega))
theorem Cel.drew' {w : World} {B : Nat} {t : TypeId} {vs : Array Value} (h : Cel w B t vs) : Cel w.drew B t vs := h
theorem divcut {w wx : World} {B i j : Nat} {N D M E : Int} (hC : Cel wx B 121 #[.slice (some ⟨i, 0, none⟩) 2 2, .slice (some ⟨j, 0, none⟩) 2 2]) (h1 : Cel wx i 117 #[.int .u64 (N.natAbs : Int), .int .u64 (E.natAbs : Int)]) (h2 : Cel wx j 117 #[.int .u64 (D.natAbs : Int), .int .u64 (M.natAbs : Int)]) (hr : Cel wx w.heap.size 23 #[.int .i64 0, .int .i64 0]) (hb : Below w.heap.size w wx) :
    ∃ (Wx : World) (B' : Nat) (v1 v2 : Value), Wx = wx ∧ Value.pointer (some ⟨B, 0, none⟩) = .pointer (some ⟨B', 0, none⟩) ∧ Cel wx B' 121 #[v1, v2] ∧ Sl wx 1 v1 (u64s [N.natAbs, E.natAbs]) ∧ Sl wx 1 v2 (u64s [D.natAbs, M.natAbs]) ∧ Cel wx w.heap.size 23 #[.int .i64 0, .int .i64 0] ∧ Below w.heap.size w wx :=
  ⟨_, _, _, _, rfl, rfl, hC, Sl.ofCel h1, Sl.ofCel h2, hr, hb⟩
theorem prodQ2 (N D M E : Int) : prodQ [(N, D), (M, E)] = rat N D * rat M E := by
  simp only [prodQ]; grind

set_option maxRecDepth 100000 in
set_option maxHeartbeats 1000000 in
theorem mulc_any (pa pb : Nat) (N D M E : Int) (w : World) (hz : Zw w) (ha : isR N D = true) (hb : isR M E = true)
    (hpa : w.heap[pa]? = some (.cells #[.int .i64 N, .int .i64 D] 23 (0, 0))) (hpb : w.heap[pb]? = some (.cells #[.int .i64 M, .int .i64 E] 23 (0, 0))) :
    Calls Tryd.prog 117 #[.pointer (some ⟨pa, 0, none⟩), .pointer (some ⟨pb, 0, none⟩)] w fun e w' => e = .returned (rrV (mulR N D M E)) ∧ Below w.heap.size w w' := by
  obtain ⟨a0, a1, _, _⟩ := box2i hpa
  obtain ⟨b0, b1, _, _⟩ := box2i hpb
  have la := lt_of_block hpa
  have lb := lt_of_block hpb
  have Y0 := (Cel.new w 23 #[.int .i64 0, .int .i64 0]).alloc (.cells #[.int .i64 N, .int .i64 D, .int .i64 M, .int .i64 E] 23)
  have hS := Sl.new (s := 2) (w.alloc (.cells #[.int .i64 0, .int .i64 0] 23)) 23 2 2 #[.int .i64 N, .int .i64 D, .int .i64 M, .int .i64 E] rfl (by omega) (by omega)
  rw [World.size_alloc] at hS
  have hw0 : Below w.heap.size w ((w.alloc (.cells #[.int .i64 0, .int .i64 0] 23)).alloc (.cells #[.int .i64 N, .int .i64 D, .int .i64 M, .int .i64 E] 23)) := (below_alloc' _ _).alloc (by simp) _
  have hc := multiplied_any [(N, D), (M, E)] (some ⟨w.heap.size + 1, 0, none⟩) 2 _ (hz.below hw0) hS (fun r hr => by simp at hr; rcases hr with e | e <;> subst e <;> assumption) (by simp)
  rw [prodQ2] at hc
  have HC := Lib.hid hc
  clear hc hpa hpb ha hb hS
  go_enter Tryd.func117, Tryd.ntmps117
  go_wp2_with fail
  go_fit HC.out
  rintro e w1 ⟨rfl, hb1⟩
  have hX := Y0.below (by simp; omega) hb1
  have r0 := hX.cell 0 (.int .i64 0) rfl
  have r1 := hX.cell 1 (.int .i64 0) rfl
  have f0 := hX.frozen 0
  have f1 := hX.frozen 1
  obtain ⟨q, HQ⟩ : ∃ q, Hid (fit (rat N D * rat M E) = q) := ⟨_, rfl⟩
  rw [HQ.out]
  have k5 := hX.set2 (.int .i64 q.n) (.int .i64 q.d)
  have s0 := k5.cell 0 (.int .i64 q.n) rfl
  have s1 := k5.cell 1 (.int .i64 q.d) rfl
  clear HC hX Y0 k5
  go_wp2
  exact bodyPost_ret (v := .tuple #[.agg #[.int .i64 q.n, .int .i64 q.d], .int .i64 q.e]) (by simp [results, Tryd.results117, go_sem, s0, s1]) rfl ⟨by unfold mulR; rw [HQ.out] <;> rfl, ((below_then hw0 hb1).setCell (p := ⟨w.heap.size, 0, none⟩) (by simp) _).setCell (p := ⟨w.heap.size, 1, none⟩) (by simp) _⟩

set_option maxRecDepth 100000 in
set_option maxHeartbeats 8000000 in
theorem divc_any (pa pb : Nat) (N D M E : Int) (w : World) (hz : Zw w) (ha : isR N D = true) (hb : isR M E = true)
    (hpa : w.heap[pa]? = some (.cells #[.int .i64 N, .int .i64 D] 23 (0, 0))) (hpb : w.heap[pb]? = some (.cells #[.int .i64 M, .int .i64 E] 23 (0, 0))) :
    Calls Tryd.prog 119 #[.pointer (some ⟨pb, 0, none⟩), .pointer (some ⟨pa, 0, none⟩)] w fun e w' => e = .returned (rrV (divR N D M E)) ∧ Below w.heap.size w w' := by
  obtain ⟨a0, a1, _, _⟩ := box2i hpa
  obtain ⟨b0, b1, _, _⟩ := box2i hpb
  have la := lt_of_block hpa
  have lb := lt_of_block hpb
  have hX := Cel.new w 23 #[.int .i64 0, .int .i64 0]
  have r0 := hX.cell 0 (.int .i64 0) rfl
  have r1 := hX.cell 1 (.int .i64 0) rfl
  have f0 := hX.frozen 0
  have f1 := hX.frozen 1
  by_cases hM : M = 0
  · have HF := Lib.hid (show divR N D M E = ⟨0, 0, 9⟩ from if_pos hM)
    subst hM
    clear ha hb
    have k5 := hX.set2 (.int .i64 0) (.int .i64 0)
    have s0 := k5.cell 0 (.int .i64 0) rfl
    have s1 := k5.cell 1 (.int .i64 0) rfl
    go_enter Tryd.func119, Tryd.ntmps119
    go_wp2
    exact bodyPost_ret (v := .tuple #[.agg #[.int .i64 0, .int .i64 0], .int .i64 9]) (by simp [results, Tryd.results119, go_sem]) rfl ⟨by rw [HF.out] <;> rfl, by first | exact below_alloc' _ _ | exact ((below_alloc' w _).setCell (p := ⟨w.heap.size, 0, none⟩) (by simp) _).setCell (p := ⟨w.heap.size, 1, none⟩) (by simp) _⟩
  · have HF := Lib.hid (show divR N D M E = fit (rat N D / rat M E) from if_neg hM)
    have bM : (M == 0) = false := by simpa using hM
    have hba := isR_bd ha
    have hbb := isR_bd hb
    by_cases hN : N = 0
    · have HG := Lib.hid (show fit (rat N D / rat M E) = ⟨0, 1, 0⟩ by
        have e : rat N D / rat M E = 0 := by unfold rat; subst hN; rw [Rat.div_def, Rat.div_def]; have : ((0 : Int) : Rat) = 0 := rfl; rw [this]; grind
        rw [e, fit_zero])
      subst hN
      clear hM ha hb
      obtain ⟨z0, z1⟩ := hz.below (below_alloc' w (.cells #[.int .i64 0, .int .i64 0] 23))
      go_enter Tryd.func119, Tryd.ntmps119
      go_wp2
      exact bodyPost_ret (v := .tuple #[.agg #[.int .i64 0, .int .i64 1], .int .i64 0]) (by simp [results, Tryd.results119, go_sem]) rfl ⟨by rw [HF.out, HG.out] <;> rfl, below_alloc' w _⟩
    · have bN : (N == 0) = false := by simpa using hN
      have HV := Lib.hid (show sgn (decide (N < 0) != decide (M < 0)) (val [N.natAbs, E.natAbs] [D.natAbs, M.natAbs]) = rat N D / rat M E by
        have e1 := sgn_ratio N D (by omega)
        have e2 := sgn_ratio M E (by omega)
        rw [decide_eq_false (show ¬ D < 0 by omega)] at e1
        rw [decide_eq_false (show ¬ E < 0 by omega)] at e2
        unfold rat
        rw [← e1, ← e2]
        have h1 : ((N.natAbs : Nat) : Rat) ≠ 0 := by intro h; have : N.natAbs = 0 := by exact_mod_cast h
                                                     omega
        have h2 : ((M.natAbs : Nat) : Rat) ≠ 0 := by intro h; have : M.natAbs = 0 := by exact_mod_cast h
                                                     omega
        have h3 : ((D.natAbs : Nat) : Rat) ≠ 0 := by intro h; have : D.natAbs = 0 := by exact_mod_cast h
                                                     omega
        have h4 : ((E.natAbs : Nat) : Rat) ≠ 0 := by intro h; have : E.natAbs = 0 := by exact_mod_cast h
                                                     omega
        have e3 : val [N.natAbs, E.natAbs] [D.natAbs, M.natAbs] = val [N.natAbs] [D.natAbs] / val [M.natAbs] [E.natAbs] := by
          simp [val, prodN]
          grind
        rw [e3]
        generalize val [N.natAbs] [D.natAbs] = a
        generalize val [M.natAbs] [E.natAbs] = b
        cases decide (N < 0) <;> cases decide (M < 0) <;> simp [sgn] <;> grind)
      have on : Ones [N.natAbs, E.natAbs] := Ones.cons (by omega) (by omega) (Ones.cons (by omega) (by omega) Ones.nil)
      have od : Ones [D.natAbs, M.natAbs] := Ones.cons (by omega) (by omega) (Ones.cons (by omega) (by omega) Ones.nil)
      have HC := Lib.hid (fun W v (hp : Pr W v [N.natAbs, E.natAbs] [D.natAbs, M.natAbs]) => pratio_any v _ _ (decide (N < 0) != decide (M < 0)) W hp on od (by simp) (by simp))
      have bdN : Bd N := by unfold Bd; omega
      have bdD : Bd D := by unfold Bd; omega
      have bdM : Bd M := by unfold Bd; omega
      have bdE : Bd E := by unfold Bd; omega
      clear hM hN ha hb on od hba hbb hpa hpb
      have HK := Lib.hid (fun w' (hb : Below w.heap.size w w') => (⟨below_cell hb a0, below_cell hb a1, below_cell hb b0, below_cell hb b1⟩ : w'.cell? ⟨pa, 0, none⟩ = some (.int .i64 N) ∧ w'.cell? ⟨pa, 1, none⟩ = some (.int .i64 D) ∧ w'.cell? ⟨pb, 0, none⟩ = some (.int .i64 M) ∧ w'.cell? ⟨pb, 1, none⟩ = some (.int .i64 E)))
      have HX := Lib.hid hX
      have hw0 := Lib.hid (below_alloc' w (.cells #[.int .i64 0, .int .i64 0] 23))
      go_enter Tryd.func119, Tryd.ntmps119
      go_upto_region 5 with fail
      go_cut [4] (fun t4 wx => ∃ (Wx : World) (B : Nat) (v1 v2 : Value), Wx = wx ∧ t4 = .pointer (some ⟨B, 0, none⟩) ∧ Cel wx B 121 #[v1, v2] ∧ Sl wx 1 v1 (u64s [N.natAbs, E.natAbs]) ∧ Sl wx 1 v2 (u64s [D.natAbs, M.natAbs]) ∧ Cel wx w.heap.size 23 #[.int .i64 0, .int .i64 0] ∧ Below w.heap.size w wx)
      case first =>
        go_region_held3 (fun w' => w'.cell? ⟨pa, 0, none⟩ = some (.int .i64 N) ∧ w'.cell? ⟨pa, 1, none⟩ = some (.int .i64 D) ∧ w'.cell? ⟨pb, 0, none⟩ = some (.int .i64 M) ∧ w'.cell? ⟨pb, 1, none⟩ = some (.int .i64 E)) (first | exact HK.out _ (by repeat (first | exact Below.refl _ _ | refine below_drew ?_ | refine Below.alloc ?_ (by first | (simp; done) | (simp; omega)) _)) | go_keep)
          (first
          | (go_at_call_of 86 (Value.int .i64 N); refine (sizeN N _ bdN).mono ?_; rintro e w' ⟨rfl, rfl⟩)
          | (go_at_call_of 86 (Value.int .i64 D); refine (sizeN D _ bdD).mono ?_; rintro e w' ⟨rfl, rfl⟩)
          | (go_at_call_of 86 (Value.int .i64 M); refine (sizeN M _ bdM).mono ?_; rintro e w' ⟨rfl, rfl⟩)
          | (go_at_call_of 86 (Value.int .i64 E); refine (sizeN E _ bdE).mono ?_; rintro e w' ⟨rfl, rfl⟩))
        all_goals (
          go_wp2
          go_meet
          apply divcut
          all_goals repeat (first | exact HX.out | exact Cel.at _ _ _ _ (by first | rfl | simp) | exact Below.refl _ _ | refine Cel.drew' ?_ | refine Cel.alloc ?_ _ | refine below_drew ?_ | refine Below.alloc ?_ (by first | (simp; done) | (simp; omega)) _))
      case rest =>
        obtain ⟨V, B, v1, v2, rfl, rfl, hC, h1, h2, hXV, hB⟩ := hcut
        obtain ⟨c0, c1, c2, c3⟩ := HK.out _ hB
        have p0 := hC.cell 0 _ rfl
        have p1 := hC.cell 1 _ rfl
        have hc := HC.out V (.agg #[v1, v2]) ⟨_, _, rfl, h1, h2⟩
        rw [HV.out] at hc
        have HC2 := Lib.hid hc
        have HB := Lib.hid hB
        clear hc h1 h2 hC HC
        go_wp2_with fail
        go_fit HC2.out
        rintro e w1 ⟨rfl, hb1⟩
        have hX1 := hXV.below (by have := hXV.lt; omega) hb1
        have r0 := hX1.cell 0 (.int .i64 0) rfl
        have r1 := hX1.cell 1 (.int .i64 0) rfl
        have f0 := hX1.frozen 0
        have f1 := hX1.frozen 1
        obtain ⟨q, HQ⟩ : ∃ q, Hid (fit (rat N D / rat M E) = q) := ⟨_, rfl⟩
        rw [HQ.out]
        have k5 := hX1.set2 (.int .i64 q.n) (.int .i64 q.d)
        have s0 := k5.cell 0 (.int .i64 q.n) rfl
        have s1 := k5.cell 1 (.int .i64 q.d) rfl
        have HBB := Lib.hid (HB.out.trans (hb1.mono (by have := HB.out.size; omega)))
        clear HC2 hX1 hXV HX k5 hX
        go_wp2
        exact bodyPost_ret (v := .tuple #[.agg #[.int .i64 q.n, .int .i64 q.d], .int .i64 q.e]) (by simp [results, Tryd.results119, go_sem, s0, s1]) rfl ⟨by rw [HF.out, HQ.out] <;> rfl, (HBB.out.setCell (p := ⟨w.heap.size, 0, none⟩) (by simp) _).setCell (p := ⟨w.heap.size, 1, none⟩) (by simp) _⟩

set_option maxRecDepth 100000 in
set_option maxHeartbeats 1000000 in
theorem mulcalc_any (pa pb : Nat) (N D M E : Int) (w : World) (hz : Zw w) (hN : Bd N) (hD : Bd D) (hM : Bd M) (hE : Bd E)
    (hpa : w.heap[pa]? = some (.cells #[.int .i64 N, .int .i64 D] 23 (0, 0))) (hpb : w.heap[pb]? = some (.cells #[.int .i64 M, .int .i64 E] 23 (0, 0))) :
    Calls Tryd.prog 105 #[.agg #[.int .i64 N, .int .i64 D], .agg #[.int .i64 M, .int .i64 E], .func (.func 117) #[] #[.pointer (some ⟨pa, 0, none⟩), .pointer (some ⟨pb, 0, none⟩)]] w fun e w' =>
      e = .returned (rrV (opF N D M E (mulR N D M E))) ∧ Below w.heap.size w w' := by
  obtain ⟨W, hW⟩ : ∃ W, ((w.alloc (.cells #[.int .i64 N, .int .i64 D] 23)).alloc (.cells #[.int .i64 M, .int .i64 E] 23)).alloc (.cells #[.int .i64 0, .int .i64 0] 23) = W := ⟨_, rfl⟩
  have hwW : Below w.heap.size w W := by rw [← hW]; exact (((Below.refl _ _).alloc (Nat.le_refl _) _).alloc (by simp) _).alloc (by simp; omega) _
  have q0 : W.heap[w.heap.size]? = some (.cells #[.int .i64 N, .int .i64 D] 23 (0, 0)) := by
    rw [← hW]; exact (Below.heap_alloc _ _ _ (by simp; omega)).trans (heap_alloc2_old _ _ _)
  have q1 : W.heap[w.heap.size + 1]? = some (.cells #[.int .i64 M, .int .i64 E] 23 (0, 0)) := by
    rw [← hW]; exact (Below.heap_alloc _ _ _ (by simp)).trans (heap_alloc2_new _ _ _)
  have q2 : W.heap[w.heap.size + 1 + 1]? = some (.cells #[.int .i64 0, .int .i64 0] 23 (0, 0)) := by
    rw [← hW]
    have := heap_alloc_new ((w.alloc (.cells #[.int .i64 N, .int .i64 D] 23)).alloc (.cells #[.int .i64 M, .int .i64 E] 23)) (.cells #[.int .i64 0, .int .i64 0] 23)
    simpa using this
  have Q1 := Lib.hid q1
  have Q2 := Lib.hid q2
  have HPA := Lib.hid (blk_below hpa hwW)
  have HPB := Lib.hid (blk_below hpb hwW)
  have hzW := hz.below hwW
  obtain ⟨a0, a1, _, _⟩ := box2i q0
  clear q0 q1 q2 hpa hpb
  go_enter Tryd.func105, Tryd.ntmps105
  go_wp2_with fail
  have hc := isRatio_any N D W hN.1 hN.2 hD.1 hD.2
  by_cases h1 : isR N D = true
  · rw [h1] at hc
    go_fit hc
    rintro e w1 ⟨rfl, hb1⟩
    obtain ⟨b0, b1, _, _⟩ := box2i (blk_below Q1.out hb1)
    clear hc
    go_wp2_with fail
    have hc2 := isRatio_any M E w1 hM.1 hM.2 hE.1 hE.2
    by_cases h2 : isR M E = true
    · rw [h2] at hc2
      go_fit hc2
      rintro e w2 ⟨rfl, hb2⟩
      clear hc2
      go_wp2_with fail
      have hc3 := mulc_any pa pb N D M E w2 ((hzW.below hb1).below hb2) h1 h2 (blk_below (blk_below HPA.out hb1) hb2) (blk_below (blk_below HPB.out hb1) hb2)
      go_fit hc3
      rintro e w3 ⟨rfl, hb3⟩
      obtain ⟨r0, r1, y0, y1⟩ := box2i (blk_below (blk_below (blk_below Q2.out hb1) hb2) hb3)
      clear hc3
      have HF := Lib.hid (opF_yes (r := mulR N D M E) h1 h2)
      clear h1 h2
      obtain ⟨q, HQ⟩ : ∃ q, Hid (mulR N D M E = q) := ⟨_, rfl⟩
      rw [HQ.out]
      go_wp2
      exact bodyPost_ret (v := .tuple #[.agg #[.int .i64 q.n, .int .i64 q.d], .int .i64 q.e]) (by simp [results, Tryd.results105, go_sem, r0, r1]) rfl ⟨by rw [HF.out, HQ.out] <;> rfl, ((below_then (below_then (below_then hwW hb1) hb2) hb3).setCell (p := ⟨w.heap.size + 1 + 1, 0, none⟩) (by simp; omega) _).setCell (p := ⟨w.heap.size + 1 + 1, 1, none⟩) (by simp; omega) _⟩
    · have h2 : isR M E = false := by simpa using h2
      rw [h2] at hc2
      go_fit hc2
      rintro e w2 ⟨rfl, hb2⟩
      obtain ⟨r0, r1, y0, y1⟩ := box2i (blk_below (blk_below Q2.out hb1) hb2)
      have HF := Lib.hid (opF_no2 (r := mulR N D M E) (N := N) (D := D) h2)
      clear hc2
      go_wp2
      exact bodyPost_ret (v := .tuple #[.agg #[.int .i64 0, .int .i64 0], .int .i64 2]) (by simp [results, Tryd.results105, go_sem, r0, r1]) rfl ⟨by rw [HF.out] <;> rfl, ((below_then (below_then hwW hb1) hb2).setCell (p := ⟨w.heap.size + 1 + 1, 0, none⟩) (by simp; omega) _).setCell (p := ⟨w.heap.size + 1 + 1, 1, none⟩) (by simp; omega) _⟩
  · have h1 : isR N D = false := by simpa using h1
    rw [h1] at hc
    go_fit hc
    rintro e w1 ⟨rfl, hb1⟩
    obtain ⟨r0, r1, y0, y1⟩ := box2i (blk_below Q2.out hb1)
    have HF := Lib.hid (opF_no1 (r := mulR N D M E) (M := M) (E := E) h1)
    clear hc
    go_wp2
    exact bodyPost_ret (v := .tuple #[.agg #[.int .i64 0, .int .i64 0], .int .i64 2]) (by simp [results, Tryd.results105, go_sem, r0, r1]) rfl ⟨by rw [HF.out] <;> rfl, ((below_then hwW hb1).setCell (p := ⟨w.heap.size + 1 + 1, 0, none⟩) (by simp; omega) _).setCell (p := ⟨w.heap.size + 1 + 1, 1, none⟩) (by simp; omega) _⟩

set_option maxRecDepth 100000 in
set_option maxHeartbeats 1000000 in
theorem mul_any (N D M E : Int) (w : World) (hz : Zw w) (hN : Bd N) (hD : Bd D) (hM : Bd M) (hE : Bd E) :
    Calls Tryd.prog 63 #[.agg #[.int .i64 N, .int .i64 D], .agg #[.int .i64 M, .int .i64 E]] w fun e w' => e = .returned (rrV (opF N D M E (mulR N D M E))) ∧ Below w.heap.size w w' := by
  obtain ⟨W, hW⟩ : ∃ W, ((w.alloc (.cells #[.int .i64 N, .int .i64 D] 23)).alloc (.cells #[.int .i64 M, .int .i64 E] 23)).alloc (.cells #[.int .i64 0, .int .i64 0] 23) = W := ⟨_, rfl⟩
  have hwW : Below w.heap.size w W := by rw [← hW]; exact (((Below.refl _ _).alloc (Nat.le_refl _) _).alloc (by simp) _).alloc (by simp; omega) _
  have q0 : W.heap[w.heap.size]? = some (.cells #[.int .i64 N, .int .i64 D] 23 (0, 0)) := by
    rw [← hW]; exact (Below.heap_alloc _ _ _ (by simp; omega)).trans (heap_alloc2_old _ _ _)
  have q1 : W.heap[w.heap.size + 1]? = some (.cells #[.int .i64 M, .int .i64 E] 23 (0, 0)) := by
    rw [← hW]; exact (Below.heap_alloc _ _ _ (by simp)).trans (heap_alloc2_new _ _ _)
  have q2 : W.heap[w.heap.size + 1 + 1]? = some (.cells #[.int .i64 0, .int .i64 0] 23 (0, 0)) := by
    rw [← hW]
    have := heap_alloc_new ((w.alloc (.cells #[.int .i64 N, .int .i64 D] 23)).alloc (.cells #[.int .i64 M, .int .i64 E] 23)) (.cells #[.int .i64 0, .int .i64 0] 23)
    simpa using this
  have Q2 := Lib.hid q2
  have hc := mulcalc_any w.heap.size (w.heap.size + 1) N D M E W (hz.below hwW) hN hD hM hE q0 q1
  obtain ⟨a0, a1, _, _⟩ := box2i q0
  obtain ⟨b0, b1, _, _⟩ := box2i q1
  have hmf : ∀ (fn : Fn) (first cap : Array Value) (w : World), (Instr.makeFunc fn first cap).run Tryd.prog w = .ok (.func fn first cap) w := fun _ _ _ _ => rfl
  clear q0 q1 q2
  have HC := Lib.hid hc
  clear hc
  go_enter Tryd.func63, Tryd.ntmps63
  go_wp2_with fail
  go_fit HC.out
  rintro e w1 ⟨rfl, hb1⟩
  obtain ⟨r0, r1, y0, y1⟩ := box2i (blk_below Q2.out hb1)
  clear HC
  obtain ⟨q, HQ⟩ : ∃ q, Hid (opF N D M E (mulR N D M E) = q) := ⟨_, rfl⟩
  rw [HQ.out]
  go_wp2
  exact bodyPost_ret (v := .tuple #[.agg #[.int .i64 q.n, .int .i64 q.d], .int .i64 q.e]) (by simp [results, Tryd.results63, go_sem, r0, r1]) rfl ⟨by rw [HQ.out] <;> rfl, ((below_then hwW hb1).setCell (p := ⟨w.heap.size + 1 + 1, 0, none⟩) (by simp; omega) _).setCell (p := ⟨w.heap.size + 1 + 1, 1, none⟩) (by simp; omega) _⟩

set_option maxRecDepth 100000 in
set_option maxHeartbeats 1000000 in
theorem divcalc_any (pa pb : Nat) (N D M E : Int) (w : World) (hz : Zw w) (hN : Bd N) (hD : Bd D) (hM : Bd M) (hE : Bd E)
    (hpa : w.heap[pa]? = some (.cells #[.int .i64 N, .int .i64 D] 23 (0, 0))) (hpb : w.heap[pb]? = some (.cells #[.int .i64 M, .int .i64 E] 23 (0, 0))) :
    Calls Tryd.prog 105 #[.agg #[.int .i64 N, .int .i64 D], .agg #[.int .i64 M, .int .i64 E], .func (.func 119) #[] #[.pointer (some ⟨pb, 0, none⟩), .pointer (some ⟨pa, 0, none⟩)]] w fun e w' =>
      e = .returned (rrV (opF N D M E (divR N D M E))) ∧ Below w.heap.size w w' := by
  obtain ⟨W, hW⟩ : ∃ W, ((w.alloc (.cells #[.int .i64 N, .int .i64 D] 23)).alloc (.cells #[.int .i64 M, .int .i64 E] 23)).alloc (.cells #[.int .i64 0, .int .i64 0] 23) = W := ⟨_, rfl⟩
  have hwW : Below w.heap.size w W := by rw [← hW]; exact (((Below.refl _ _).alloc (Nat.le_refl _) _).alloc (by simp) _).alloc (by simp; omega) _
  have q0 : W.heap[w.heap.size]? = some (.cells #[.int .i64 N, .int .i64 D] 23 (0, 0)) := by
    rw [← hW]; exact (Below.heap_alloc _ _ _ (by simp; omega)).trans (heap_alloc2_old _ _ _)
  have q1 : W.heap[w.heap.size + 1]? = some (.cells #[.int .i64 M, .int .i64 E] 23 (0, 0)) := by
    rw [← hW]; exact (Below.heap_alloc _ _ _ (by simp)).trans (heap_alloc2_new _ _ _)
  have q2 : W.heap[w.heap.size + 1 + 1]? = some (.cells #[.int .i64 0, .int .i64 0] 23 (0, 0)) := by
    rw [← hW]
    have := heap_alloc_new ((w.alloc (.cells #[.int .i64 N, .int .i64 D] 23)).alloc (.cells #[.int .i64 M, .int .i64 E] 23)) (.cells #[.int .i64 0, .int .i64 0] 23)
    simpa using this
  have Q1 := Lib.hid q1
  have Q2 := Lib.hid q2
  have HPA := Lib.hid (blk_below hpa hwW)
  have HPB := Lib.hid (blk_below hpb hwW)
  have hzW := hz.below hwW
  obtain ⟨a0, a1, _, _⟩ := box2i q0
  clear q0 q1 q2 hpa hpb
  go_enter Tryd.func105, Tryd.ntmps105
  go_wp2_with fail
  have hc := isRatio_any N D W hN.1 hN.2 hD.1 hD.2
  by_cases h1 : isR N D = true
  · rw [h1] at hc
    go_fit hc
    rintro e w1 ⟨rfl, hb1⟩
    obtain ⟨b0, b1, _, _⟩ := box2i (blk_below Q1.out hb1)
    clear hc
    go_wp2_with fail
    have hc2 := isRatio_any M E w1 hM.1 hM.2 hE.1 hE.2
    by_cases h2 : isR M E = true
    · rw [h2] at hc2
      go_fit hc2
      rintro e w2 ⟨rfl, hb2⟩
      clear hc2
      go_wp2_with fail
      have hc3 := divc_any pa pb N D M E w2 ((hzW.below hb1).below hb2) h1 h2 (blk_below (blk_below HPA.out hb1) hb2) (blk_below (blk_below HPB.out hb1) hb2)
      go_fit hc3
      rintro e w3 ⟨rfl, hb3⟩
      obtain ⟨r0, r1, y0, y1⟩ := box2i (blk_below (blk_below (blk_below Q2.out hb1) hb2) hb3)
      clear hc3
      have HF := Lib.hid (opF_yes (r := divR N D M E) h1 h2)
      clear h1 h2
      obtain ⟨q, HQ⟩ : ∃ q, Hid (divR N D M E = q) := ⟨_, rfl⟩
      rw [HQ.out]
      go_wp2
      exact bodyPost_ret (v := .tuple #[.agg #[.int .i64 q.n, .int .i64 q.d], .int .i64 q.e]) (by simp [results, Tryd.results105, go_sem, r0, r1]) rfl ⟨by rw [HF.out, HQ.out] <;> rfl, ((below_then (below_then (below_then hwW hb1) hb2) hb3).setCell (p := ⟨w.heap.size + 1 + 1, 0, none⟩) (by simp; omega) _).setCell (p := ⟨w.heap.size + 1 + 1, 1, none⟩) (by simp; omega) _⟩
    · have h2 : isR M E = false := by simpa using h2
      rw [h2] at hc2
      go_fit hc2
      rintro e w2 ⟨rfl, hb2⟩
      obtain ⟨r0, r1, y0, y1⟩ := box2i (blk_below (blk_below Q2.out hb1) hb2)
      have HF := Lib.hid (opF_no2 (r := divR N D M E) (N := N) (D := D) h2)
      clear hc2
      go_wp2
      exact bodyPost_ret (v := .tuple #[.agg #[.int .i64 0, .int .i64 0], .int .i64 2]) (by simp [results, Tryd.results105, go_sem, r0, r1]) rfl ⟨by rw [HF.out] <;> rfl, ((below_then (below_then hwW hb1) hb2).setCell (p := ⟨w.heap.size + 1 + 1, 0, none⟩) (by simp; omega) _).setCell (p := ⟨w.heap.size + 1 + 1, 1, none⟩) (by simp; omega) _⟩
  · have h1 : isR N D = false := by simpa using h1
    rw [h1] at hc
    go_fit hc
    rintro e w1 ⟨rfl, hb1⟩
    obtain ⟨r0, r1, y0, y1⟩ := box2i (blk_below Q2.out hb1)
    have HF := Lib.hid (opF_no1 (r := divR N D M E) (M := M) (E := E) h1)
    clear hc
    go_wp2
    exact bodyPost_ret (v := .tuple #[.agg #[.int .i64 0, .int .i64 0], .int .i64 2]) (by simp [results, Tryd.results105, go_sem, r0, r1]) rfl ⟨by rw [HF.out] <;> rfl, ((below_then hwW hb1).setCell (p := ⟨w.heap.size + 1 + 1, 0, none⟩) (by simp; omega) _).setCell (p := ⟨w.heap.size + 1 + 1, 1, none⟩) (by simp; omega) _⟩

set_option maxRecDepth 100000 in
set_option maxHeartbeats 1000000 in
theorem div_any (N D M E : Int) (w : World) (hz : Zw w) (hN : Bd N) (hD : Bd D) (hM : Bd M) (hE : Bd E) :
    Calls Tryd.prog 66 #[.agg #[.int .i64 N, .int .i64 D], .agg #[.int .i64 M, .int .i64 E]] w fun e w' => e = .returned (rrV (opF N D M E (divR N D M E))) ∧ Below w.heap.size w w' := by
  obtain ⟨W, hW⟩ : ∃ W, ((w.alloc (.cells #[.int .i64 N, .int .i64 D] 23)).alloc (.cells #[.int .i64 M, .int .i64 E] 23)).alloc (.cells #[.int .i64 0, .int .i64 0] 23) = W := ⟨_, rfl⟩
  have hwW : Below w.heap.size w W := by rw [← hW]; exact (((Below.refl _ _).alloc (Nat.le_refl _) _).alloc (by simp) _).alloc (by simp; omega) _
  have q0 : W.heap[w.heap.size]? = some (.cells #[.int .i64 N, .int .i64 D] 23 (0, 0)) := by
    rw [← hW]; exact (Below.heap_alloc _ _ _ (by simp; omega)).trans (heap_alloc2_old _ _ _)
  have q1 : W.heap[w.heap.size + 1]? = some (.cells #[.int .i64 M, .int .i64 E] 23 (0, 0)) := by
    rw [← hW]; exact (Below.heap_alloc _ _ _ (by simp)).trans (heap_alloc2_new _ _ _)
  have q2 : W.heap[w.heap.size + 1 + 1]? = some (.cells #[.int .i64 0, .int .i64 0] 23 (0, 0)) := by
    rw [← hW]
    have := heap_alloc_new ((w.alloc (.cells #[.int .i64 N, .int .i64 D] 23)).alloc (.cells #[.int .i64 M, .int .i64 E] 23)) (.cells #[.int .i64 0, .int .i64 0] 23)
    simpa using this
  have Q2 := Lib.hid q2
  have hc := divcalc_any w.heap.size (w.heap.size + 1) N D M E W (hz.below hwW) hN hD hM hE q0 q1
  obtain ⟨a0, a1, _, _⟩ := box2i q0
  obtain ⟨b0, b1, _, _⟩ := box2i q1
  have hmf : ∀ (fn : Fn) (first cap : Array Value) (w : World), (Instr.makeFunc fn first cap).run Tryd.prog w = .ok (.func fn first cap) w := fun _ _ _ _ => rfl
  clear q0 q1 q2
  have HC := Lib.hid hc
  clear hc
  go_enter Tryd.func66, Tryd.ntmps66
  go_wp2_with fail
  go_fit HC.out
  rintro e w1 ⟨rfl, hb1⟩
  obtain ⟨r0, r1, y0, y1⟩ := box2i (blk_below Q2.out hb1)
  clear HC
  obtain ⟨q, HQ⟩ : ∃ q, Hid (opF N D M E (divR N D M E) = q) := ⟨_, rfl⟩
  rw [HQ.out]
  go_wp2
  exact bodyPost_ret (v := .tuple #[.agg #[.int .i64 q.n, .int .i64 q.d], .int .i64 q.e]) (by simp [results, Tryd.results66, go_sem, r0, r1]) rfl ⟨by rw [HQ.out] <;> rfl, ((below_then hwW hb1).setCell (p := ⟨w.heap.size + 1 + 1, 0, none⟩) (by simp; omega) _).setCell (p := ⟨w.heap.size + 1 + 1, 1, none⟩) (by simp; omega) _⟩

end Go.Proofs.YtmibpncmebhbjaaDoor
