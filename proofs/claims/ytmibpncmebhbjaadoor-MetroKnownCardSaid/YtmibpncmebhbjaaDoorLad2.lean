/- The walks of In and Round, of metro and of the reference. -/
import Derived.Test.YtmibpncmebhbjaaDoorLad1
import Derived.Test.YtmibpncmebhbjaaDoorRef4
namespace Go.Proofs.YtmibpncmebhbjaaDoor
open Go Go.RowKit Go.Shelf
attribute [local go_sem] Oper.semAt_some rrV

theorem inF_err {v e n E : Int} (h : firstF [e, needF (rangeB n) 8] = E) (hE : E ≠ 0) : inF v e n = ⟨0, 0, E⟩ := by
  subst h
  unfold inF
  by_cases he : e = 0
  · subst he
    cases hr : rangeB n with
    | true => rw [hr] at hE; exact absurd rfl hE
    | false => simp [firstF, needF]
  · simp [he, firstF]
theorem roundF_err {v e n E : Int} (h : firstF [e, needF (rangeB n) 8] = E) (hE : E ≠ 0) : roundF v e n = (0, E) := by
  subst h
  unfold roundF
  by_cases he : e = 0
  · subst he
    cases hr : rangeB n with
    | true => rw [hr] at hE; exact absurd rfl hE
    | false => simp [firstF, needF]
  · simp [he, firstF]
theorem first2_bad (e : Int) : firstF [e, needF false 8] ≠ 0 := by
  by_cases he : e = 0
  · subst he; decide
  · simp [he, firstF]
theorem first2_good {e : Int} (he : ¬ e = 0) : firstF [e, needF true 8] ≠ 0 := by simp [he, firstF]

set_option maxRecDepth 100000 in
set_option maxHeartbeats 2000000 in
theorem in_any (nm : ByteArray) (hnm : (nm.size : Int) ≤ 9223372036854775807) (A : Option Addr) (c : Nat) (us : List Un) (n : Int) (s : ByteArray) (w : World) (hz : Zw w) (hsl : Sl w 2 (.slice A us.length c) (unitsV us)) (hn1 : -9223372036854775808 ≤ n) (hn2 : n ≤ 9223372036854775807) :
    Calls Tryd.prog 56 #[.agg #[.string nm, .slice A us.length c], .int .i64 n, .string s] w fun e w' => e = .returned (rrV (inF (valueF nm us s).1 (valueF nm us s).2 n)) ∧ Below w.heap.size w w' := by
  have Y0 := (Cel.new w 33 #[.string nm, .slice A us.length c]).alloc (.cells #[.int .i64 0, .int .i64 0] 23)
  have Y1 := Cel.new (w.alloc (.cells #[.string nm, .slice A us.length c] 33)) 23 #[.int .i64 0, .int .i64 0]
  simp only [World.size_alloc] at Y1
  have hw0 : Below w.heap.size w ((w.alloc (.cells #[.string nm, .slice A us.length c] 33)).alloc (.cells #[.int .i64 0, .int .i64 0] 23)) := (below_alloc' _ _).alloc (by simp) _
  obtain ⟨W, hW⟩ : ∃ W, (w.alloc (.cells #[.string nm, .slice A us.length c] 33)).alloc (.cells #[.int .i64 0, .int .i64 0] 23) = W := ⟨_, rfl⟩
  rw [hW] at Y0 Y1 hw0
  have HY1 := Lib.hid Y1
  have HW0 := Lib.hid hw0
  have a0 := Y0.cell 0 (.string nm) rfl
  have a1 := Y0.cell 1 (.slice A us.length c) rfl
  have HV := Lib.hid (value_any nm hnm (.agg #[.string nm, .slice A us.length c]) us s W ⟨A, _, c, rfl, hsl.below hw0⟩)
  have HBD := Lib.hid (fun h => valueF_bd (nm := nm) (us := us) (s := s) h)
  have HZ := Lib.hid (hz.below hw0)
  clear hz
  clear hsl Y0 Y1 hw0
  generalize valueF nm us s = q at *
  obtain ⟨v, e⟩ := q
  simp only at HBD HV ⊢
  go_enter Tryd.func56, Tryd.ntmps56
  obtain ⟨E, hE⟩ : ∃ E, firstF [e, needF (rangeB n) 8] = E := ⟨_, rfl⟩
  by_cases h0 : 0 ≤ n
  · have d0 : decide (0 ≤ n) = true := decide_eq_true h0
    by_cases h1 : n ≤ 1099511627776
    · have d1 : decide (n ≤ 1099511627776) = true := decide_eq_true h1
      have HR := Lib.hid (show firstF [e, needF true 8] = E by rw [← hE, rangeB_in h0 h1])
      by_cases he : e = 0
      · have hE0 : E = 0 := by rw [← HR.out, he]; rfl
        have dq : (E != 0) = false := by simp [hE0]
        obtain ⟨v1, v2⟩ := HBD.out he
        have hv0 : ¬ v = 0 := by omega
        have HF := Lib.hid (show inF v e n = ratioF n v by rw [inF, if_pos he, rangeB_in h0 h1]; rfl)
        clear hE he hE0
        go_wp2_with (first
          | (go_at_call 29; refine HV.out.mono ?_; rintro e' w1 ⟨rfl, hb1⟩)
          | (go_at_call_of 97 (Value.int .i64 8); refine (need_any _ 8 _).mono ?_; rintro e' w2 ⟨rfl, rfl⟩)
          | (go_at_call 102; refine (first2_any _ _ E w1 HR.out).mono ?_; rintro e' w2 ⟨rfl, rfl⟩; have hB2 := hb1.alloc hb1.size (.cells #[.int .i64 e, .int .i64 0] 24))
          | (go_at_call 21; refine (ratio_any n v _ (HZ.out.below hB2) hn1 hn2 (by omega) (by omega)).mono ?_; rintro e' w3 ⟨rfl, hb3⟩; have hB3 := hB2.trans (hb3.mono hB2.size); have y5 := HY1.out.below HY1.out.lt hB3; obtain ⟨z0, z1, z2, z3⟩ := box2i y5; generalize ratioF n v = r at *))
        exact bodyPost_ret (v := .tuple #[.agg #[.int .i64 r.n, .int .i64 r.d], .int .i64 r.e]) (by simp [results, Tryd.results56, go_sem, z0, z1]) rfl
          ⟨by rw [HF.out] <;> rfl, ((below_then HW0.out hB3).setCell (p := ⟨w.heap.size + 1, 0, none⟩) (by simp) _).setCell (p := ⟨w.heap.size + 1, 1, none⟩) (by simp) _⟩
      · have hq0 : E ≠ 0 := by rw [← HR.out]; exact first2_good he
        have dq : (E != 0) = true := by simp [hq0]
        have HF := Lib.hid (inF_err (v := v) hE hq0)
        clear hE hq0
        go_wp2_with (first
          | (go_at_call 29; refine HV.out.mono ?_; rintro e' w1 ⟨rfl, hb1⟩)
          | (go_at_call_of 97 (Value.int .i64 8); refine (need_any _ 8 _).mono ?_; rintro e' w2 ⟨rfl, rfl⟩)
          | (go_at_call 102; refine (first2_any _ _ E w1 HR.out).mono ?_; rintro e' w2 ⟨rfl, rfl⟩; have hB2 := hb1.alloc hb1.size (.cells #[.int .i64 e, .int .i64 (needF true 8)] 24); have y5 := HY1.out.below HY1.out.lt hB2; obtain ⟨z0, z1, z2, z3⟩ := box2i y5))
        exact bodyPost_ret (v := .tuple #[.agg #[.int .i64 0, .int .i64 0], .int .i64 E]) (by simp [results, Tryd.results56, go_sem, z0, z1]) rfl
          ⟨by rw [HF.out] <;> rfl, ((below_then HW0.out hB2).setCell (p := ⟨w.heap.size + 1, 0, none⟩) (by simp) _).setCell (p := ⟨w.heap.size + 1, 1, none⟩) (by simp) _⟩
    · have d1 : decide (n ≤ 1099511627776) = false := decide_eq_false h1
      have HR := Lib.hid (show firstF [e, needF false 8] = E by rw [← hE, rangeB_big h1])
      have hq0 : E ≠ 0 := by rw [← HR.out]; exact first2_bad e
      have dq : (E != 0) = true := by simp [hq0]
      have HF := Lib.hid (inF_err (v := v) hE hq0)
      clear hE hq0
      go_wp2_with (first
        | (go_at_call 29; refine HV.out.mono ?_; rintro e' w1 ⟨rfl, hb1⟩)
        | (go_at_call_of 97 (Value.int .i64 8); refine (need_any _ 8 _).mono ?_; rintro e' w2 ⟨rfl, rfl⟩)
        | (go_at_call 102; refine (first2_any _ _ E w1 HR.out).mono ?_; rintro e' w2 ⟨rfl, rfl⟩; have hB2 := hb1.alloc hb1.size (.cells #[.int .i64 e, .int .i64 (needF false 8)] 24); have y5 := HY1.out.below HY1.out.lt hB2; obtain ⟨z0, z1, z2, z3⟩ := box2i y5))
      exact bodyPost_ret (v := .tuple #[.agg #[.int .i64 0, .int .i64 0], .int .i64 E]) (by simp [results, Tryd.results56, go_sem, z0, z1]) rfl
        ⟨by rw [HF.out] <;> rfl, ((below_then HW0.out hB2).setCell (p := ⟨w.heap.size + 1, 0, none⟩) (by simp) _).setCell (p := ⟨w.heap.size + 1, 1, none⟩) (by simp) _⟩
  · have d0 : decide (0 ≤ n) = false := decide_eq_false h0
    have HR := Lib.hid (show firstF [e, needF false 8] = E by rw [← hE, rangeB_lo h0])
    have hq0 : E ≠ 0 := by rw [← HR.out]; exact first2_bad e
    have dq : (E != 0) = true := by simp [hq0]
    have HF := Lib.hid (inF_err (v := v) hE hq0)
    clear hE hq0
    go_wp2_with (first
      | (go_at_call 29; refine HV.out.mono ?_; rintro e' w1 ⟨rfl, hb1⟩)
      | (go_at_call_of 97 (Value.int .i64 8); refine (need_any _ 8 _).mono ?_; rintro e' w2 ⟨rfl, rfl⟩)
      | (go_at_call 102; refine (first2_any _ _ E w1 HR.out).mono ?_; rintro e' w2 ⟨rfl, rfl⟩; have hB2 := hb1.alloc hb1.size (.cells #[.int .i64 e, .int .i64 (needF false 8)] 24); have y5 := HY1.out.below HY1.out.lt hB2; obtain ⟨z0, z1, z2, z3⟩ := box2i y5))
    exact bodyPost_ret (v := .tuple #[.agg #[.int .i64 0, .int .i64 0], .int .i64 E]) (by simp [results, Tryd.results56, go_sem, z0, z1]) rfl
      ⟨by rw [HF.out] <;> rfl, ((below_then HW0.out hB2).setCell (p := ⟨w.heap.size + 1, 0, none⟩) (by simp) _).setCell (p := ⟨w.heap.size + 1, 1, none⟩) (by simp) _⟩

set_option maxRecDepth 100000 in
set_option maxHeartbeats 2000000 in
theorem round_any (nm : ByteArray) (hnm : (nm.size : Int) ≤ 9223372036854775807) (A : Option Addr) (c : Nat) (us : List Un) (n : Int) (s : ByteArray) (w : World) (hsl : Sl w 2 (.slice A us.length c) (unitsV us)) (hn1 : -9223372036854775808 ≤ n) (hn2 : n ≤ 9223372036854775807) :
    Calls Tryd.prog 50 #[.agg #[.string nm, .slice A us.length c], .int .i64 n, .string s] w fun e w' => e = .returned (.tuple #[.int .i64 (roundF (valueF nm us s).1 (valueF nm us s).2 n).1, .int .i64 (roundF (valueF nm us s).1 (valueF nm us s).2 n).2]) ∧ Below w.heap.size w w' := by
  have Y0 := Cel.new w 33 #[.string nm, .slice A us.length c]
  have hw0 : Below w.heap.size w (w.alloc (.cells #[.string nm, .slice A us.length c] 33)) := below_alloc' _ _
  obtain ⟨W, hW⟩ : ∃ W, w.alloc (.cells #[.string nm, .slice A us.length c] 33) = W := ⟨_, rfl⟩
  rw [hW] at Y0 hw0
  have HW0 := Lib.hid hw0
  have a0 := Y0.cell 0 (.string nm) rfl
  have a1 := Y0.cell 1 (.slice A us.length c) rfl
  have HV := Lib.hid (value_any nm hnm (.agg #[.string nm, .slice A us.length c]) us s W ⟨A, _, c, rfl, hsl.below hw0⟩)
  have HBD := Lib.hid (fun h => valueF_bd (nm := nm) (us := us) (s := s) h)
  clear hsl Y0 hw0
  generalize valueF nm us s = q at *
  obtain ⟨v, e⟩ := q
  simp only at HBD HV ⊢
  go_enter Tryd.func50, Tryd.ntmps50
  obtain ⟨E, hE⟩ : ∃ E, firstF [e, needF (rangeB n) 8] = E := ⟨_, rfl⟩
  by_cases h0 : 0 ≤ n
  · have d0 : decide (0 ≤ n) = true := decide_eq_true h0
    by_cases h1 : n ≤ 1099511627776
    · have d1 : decide (n ≤ 1099511627776) = true := decide_eq_true h1
      have HR := Lib.hid (show firstF [e, needF true 8] = E by rw [← hE, rangeB_in h0 h1])
      by_cases he : e = 0
      · have hE0 : E = 0 := by rw [← HR.out, he]; rfl
        have dq : (E != 0) = false := by simp [hE0]
        obtain ⟨v1, v2⟩ := HBD.out he
        have hv0 : ¬ v = 0 := by omega
        have HF0 := Lib.hid (show roundF v e n = (if v ≤ 2 * (n - n / v * v) then (if n / v * v + v ≤ 1099511627776 then (n / v * v + v, 0) else (0, 6)) else (n / v * v, 0)) by rw [roundF, if_pos he, rangeB_in h0 h1]; rfl)
        obtain ⟨q1, q2, q3, q4, q5⟩ := div_bd h0 v1
        have q6 : -9223372036854775808 ≤ n / v * v := by omega
        have q7 : n / v * v ≤ 9223372036854775807 := by omega
        clear hE he hE0
        by_cases h2 : v ≤ 2 * (n - n / v * v)
        · by_cases h3 : n / v * v + v ≤ 1099511627776
          · have HF := Lib.hid (show roundF v e n = (n / v * v + v, 0) by rw [HF0.out, if_pos h2, if_pos h3])
            have d3 : decide (1099511627776 < n / v * v + v) = false := decide_eq_false (by omega)
            go_wp2_with (first
              | (go_at_call 29; refine HV.out.mono ?_; rintro e' w1 ⟨rfl, hb1⟩)
              | (go_at_call_of 97 (Value.int .i64 8); refine (need_any _ 8 _).mono ?_; rintro e' w2 ⟨rfl, rfl⟩)
              | (go_at_call 102; refine (first2_any _ _ E w1 HR.out).mono ?_; rintro e' w2 ⟨rfl, rfl⟩; have hB2 := hb1.alloc hb1.size (.cells #[.int .i64 e, .int .i64 0] 24)))
            go_ret2
            exact ⟨by rw [HF.out] <;> rfl, below_then HW0.out hB2⟩
          · have HF := Lib.hid (show roundF v e n = (0, 6) by rw [HF0.out, if_pos h2, if_neg h3])
            have d3 : decide (1099511627776 < n / v * v + v) = true := decide_eq_true (by omega)
            go_wp2_with (first
              | (go_at_call 29; refine HV.out.mono ?_; rintro e' w1 ⟨rfl, hb1⟩)
              | (go_at_call_of 97 (Value.int .i64 8); refine (need_any _ 8 _).mono ?_; rintro e' w2 ⟨rfl, rfl⟩)
              | (go_at_call 102; refine (first2_any _ _ E w1 HR.out).mono ?_; rintro e' w2 ⟨rfl, rfl⟩; have hB2 := hb1.alloc hb1.size (.cells #[.int .i64 e, .int .i64 0] 24)))
            go_ret2
            exact ⟨by rw [HF.out] <;> rfl, below_then HW0.out hB2⟩
        · have HF := Lib.hid (show roundF v e n = (n / v * v, 0) by rw [HF0.out, if_neg h2])
          have d3 : decide (1099511627776 < n / v * v) = false := decide_eq_false (by omega)
          go_wp2_with (first
            | (go_at_call 29; refine HV.out.mono ?_; rintro e' w1 ⟨rfl, hb1⟩)
            | (go_at_call_of 97 (Value.int .i64 8); refine (need_any _ 8 _).mono ?_; rintro e' w2 ⟨rfl, rfl⟩)
            | (go_at_call 102; refine (first2_any _ _ E w1 HR.out).mono ?_; rintro e' w2 ⟨rfl, rfl⟩; have hB2 := hb1.alloc hb1.size (.cells #[.int .i64 e, .int .i64 0] 24)))
          go_ret2
          exact ⟨by rw [HF.out] <;> rfl, below_then HW0.out hB2⟩
      · have hq0 : E ≠ 0 := by rw [← HR.out]; exact first2_good he
        have dq : (E != 0) = true := by simp [hq0]
        have HF := Lib.hid (roundF_err (v := v) hE hq0)
        clear hE hq0
        go_wp2_with (first
          | (go_at_call 29; refine HV.out.mono ?_; rintro e' w1 ⟨rfl, hb1⟩)
          | (go_at_call_of 97 (Value.int .i64 8); refine (need_any _ 8 _).mono ?_; rintro e' w2 ⟨rfl, rfl⟩)
          | (go_at_call 102; refine (first2_any _ _ E w1 HR.out).mono ?_; rintro e' w2 ⟨rfl, rfl⟩; have hB2 := hb1.alloc hb1.size (.cells #[.int .i64 e, .int .i64 (needF true 8)] 24)))
        go_ret2
        exact ⟨by rw [HF.out] <;> rfl, below_then HW0.out hB2⟩
    · have d1 : decide (n ≤ 1099511627776) = false := decide_eq_false h1
      have HR := Lib.hid (show firstF [e, needF false 8] = E by rw [← hE, rangeB_big h1])
      have hq0 : E ≠ 0 := by rw [← HR.out]; exact first2_bad e
      have dq : (E != 0) = true := by simp [hq0]
      have HF := Lib.hid (roundF_err (v := v) hE hq0)
      clear hE hq0
      go_wp2_with (first
        | (go_at_call 29; refine HV.out.mono ?_; rintro e' w1 ⟨rfl, hb1⟩)
        | (go_at_call_of 97 (Value.int .i64 8); refine (need_any _ 8 _).mono ?_; rintro e' w2 ⟨rfl, rfl⟩)
        | (go_at_call 102; refine (first2_any _ _ E w1 HR.out).mono ?_; rintro e' w2 ⟨rfl, rfl⟩; have hB2 := hb1.alloc hb1.size (.cells #[.int .i64 e, .int .i64 (needF false 8)] 24)))
      go_ret2
      exact ⟨by rw [HF.out] <;> rfl, below_then HW0.out hB2⟩
  · have d0 : decide (0 ≤ n) = false := decide_eq_false h0
    have HR := Lib.hid (show firstF [e, needF false 8] = E by rw [← hE, rangeB_lo h0])
    have hq0 : E ≠ 0 := by rw [← HR.out]; exact first2_bad e
    have dq : (E != 0) = true := by simp [hq0]
    have HF := Lib.hid (roundF_err (v := v) hE hq0)
    clear hE hq0
    go_wp2_with (first
      | (go_at_call 29; refine HV.out.mono ?_; rintro e' w1 ⟨rfl, hb1⟩)
      | (go_at_call_of 97 (Value.int .i64 8); refine (need_any _ 8 _).mono ?_; rintro e' w2 ⟨rfl, rfl⟩)
      | (go_at_call 102; refine (first2_any _ _ E w1 HR.out).mono ?_; rintro e' w2 ⟨rfl, rfl⟩; have hB2 := hb1.alloc hb1.size (.cells #[.int .i64 e, .int .i64 (needF false 8)] 24)))
    go_ret2
    exact ⟨by rw [HF.out] <;> rfl, below_then HW0.out hB2⟩

set_option maxRecDepth 100000 in
set_option maxHeartbeats 2000000 in
theorem rin_any (nm : ByteArray) (hnm : (nm.size : Int) ≤ 9223372036854775807) (A : Option Addr) (c : Nat) (us : List Un) (n : Int) (s : ByteArray) (w : World) (hsl : Sl w 2 (.slice A us.length c) (unitsV us)) (hn1 : -9223372036854775808 ≤ n) (hn2 : n ≤ 9223372036854775807) :
    Calls Tryd.prog 57 #[.agg #[.string nm, .slice A us.length c], .int .i64 n, .string s] w fun e w' => e = .returned (rrV (inF (valueF nm us s).1 (valueF nm us s).2 n)) ∧ Below w.heap.size w w' := by
  have Y0 := (Cel.new w 33 #[.string nm, .slice A us.length c]).alloc (.cells #[.int .i64 0, .int .i64 0] 23)
  have Y1 := Cel.new (w.alloc (.cells #[.string nm, .slice A us.length c] 33)) 23 #[.int .i64 0, .int .i64 0]
  simp only [World.size_alloc] at Y1
  have hw0 : Below w.heap.size w ((w.alloc (.cells #[.string nm, .slice A us.length c] 33)).alloc (.cells #[.int .i64 0, .int .i64 0] 23)) := (below_alloc' _ _).alloc (by simp) _
  obtain ⟨W, hW⟩ : ∃ W, (w.alloc (.cells #[.string nm, .slice A us.length c] 33)).alloc (.cells #[.int .i64 0, .int .i64 0] 23) = W := ⟨_, rfl⟩
  rw [hW] at Y0 Y1 hw0
  have HY1 := Lib.hid Y1
  have HW0 := Lib.hid hw0
  have a0 := Y0.cell 0 (.string nm) rfl
  have a1 := Y0.cell 1 (.slice A us.length c) rfl
  have HV := Lib.hid (rvalue_any nm hnm A c us s W (hsl.below hw0))
  have HBD := Lib.hid (fun h => valueF_bd (nm := nm) (us := us) (s := s) h)
  clear hsl Y0 Y1 hw0
  generalize valueF nm us s = q at *
  obtain ⟨v, e⟩ := q
  simp only at HBD HV ⊢
  go_enter Tryd.func57, Tryd.ntmps57
  by_cases he : e = 0
  · have de : (e != 0) = false := by simp [he]
    by_cases h0 : 0 ≤ n
    · have d0 : decide (n < 0) = false := decide_eq_false (by omega)
      by_cases h1 : n ≤ 1099511627776
      · have d1 : decide (1099511627776 < n) = false := decide_eq_false (by omega)
        obtain ⟨v1, v2⟩ := HBD.out he
        have hv0 : ¬ v = 0 := by omega
        have HF := Lib.hid (show inF v e n = ratioF n v by rw [inF, if_pos he, rangeB_in h0 h1]; rfl)
        clear he
        go_wp2_with (first
          | (go_at_call 30; refine HV.out.mono ?_; rintro e' w1 ⟨rfl, hb1⟩)
          | (go_at_call 22; refine (rratio_any n v _ hn1 hn2 (by omega) (by omega)).mono ?_; rintro e' w3 ⟨rfl, hb3⟩; have hB3 := below_then hb1 hb3; have y5 := HY1.out.below HY1.out.lt hB3; obtain ⟨z0, z1, z2, z3⟩ := box2i y5; generalize ratioF n v = r at *))
        exact bodyPost_ret (v := .tuple #[.agg #[.int .i64 r.n, .int .i64 r.d], .int .i64 r.e]) (by simp [results, Tryd.results57, go_sem, z0, z1]) rfl
          ⟨by rw [HF.out] <;> rfl, ((below_then HW0.out hB3).setCell (p := ⟨w.heap.size + 1, 0, none⟩) (by simp) _).setCell (p := ⟨w.heap.size + 1, 1, none⟩) (by simp) _⟩
      · have d1 : decide (1099511627776 < n) = true := decide_eq_true (by omega)
        have HF := Lib.hid (show inF v e n = ⟨0, 0, 8⟩ by rw [inF, if_pos he, rangeB_big h1]; rfl)
        clear he
        go_wp2_with (go_at_call 30; refine HV.out.mono ?_; rintro e' w1 ⟨rfl, hb1⟩; have y5 := HY1.out.below HY1.out.lt hb1; obtain ⟨z0, z1, z2, z3⟩ := box2i y5)
        exact bodyPost_ret (v := .tuple #[.agg #[.int .i64 0, .int .i64 0], .int .i64 8]) (by simp [results, Tryd.results57, go_sem, z0, z1]) rfl
          ⟨by rw [HF.out] <;> rfl, ((below_then HW0.out hb1).setCell (p := ⟨w.heap.size + 1, 0, none⟩) (by simp) _).setCell (p := ⟨w.heap.size + 1, 1, none⟩) (by simp) _⟩
    · have d0 : decide (n < 0) = true := decide_eq_true (by omega)
      have HF := Lib.hid (show inF v e n = ⟨0, 0, 8⟩ by rw [inF, if_pos he, rangeB_lo h0]; rfl)
      clear he
      go_wp2_with (go_at_call 30; refine HV.out.mono ?_; rintro e' w1 ⟨rfl, hb1⟩; have y5 := HY1.out.below HY1.out.lt hb1; obtain ⟨z0, z1, z2, z3⟩ := box2i y5)
      exact bodyPost_ret (v := .tuple #[.agg #[.int .i64 0, .int .i64 0], .int .i64 8]) (by simp [results, Tryd.results57, go_sem, z0, z1]) rfl
        ⟨by rw [HF.out] <;> rfl, ((below_then HW0.out hb1).setCell (p := ⟨w.heap.size + 1, 0, none⟩) (by simp) _).setCell (p := ⟨w.heap.size + 1, 1, none⟩) (by simp) _⟩
  · have de : (e != 0) = true := by simp [he]
    have HF := Lib.hid (show inF v e n = ⟨0, 0, e⟩ by rw [inF, if_neg he])
    go_wp2_with (go_at_call 30; refine HV.out.mono ?_; rintro e' w1 ⟨rfl, hb1⟩; have y5 := HY1.out.below HY1.out.lt hb1; obtain ⟨z0, z1, z2, z3⟩ := box2i y5)
    exact bodyPost_ret (v := .tuple #[.agg #[.int .i64 0, .int .i64 0], .int .i64 e]) (by simp [results, Tryd.results57, go_sem, z0, z1]) rfl
      ⟨by rw [HF.out] <;> rfl, ((below_then HW0.out hb1).setCell (p := ⟨w.heap.size + 1, 0, none⟩) (by simp) _).setCell (p := ⟨w.heap.size + 1, 1, none⟩) (by simp) _⟩

set_option maxRecDepth 100000 in
set_option maxHeartbeats 2000000 in
theorem rround_any (nm : ByteArray) (hnm : (nm.size : Int) ≤ 9223372036854775807) (A : Option Addr) (c : Nat) (us : List Un) (n : Int) (s : ByteArray) (w : World) (hsl : Sl w 2 (.slice A us.length c) (unitsV us)) (hn1 : -9223372036854775808 ≤ n) (hn2 : n ≤ 9223372036854775807) :
    Calls Tryd.prog 58 #[.agg #[.string nm, .slice A us.length c], .int .i64 n, .string s] w fun e w' => e = .returned (.tuple #[.int .i64 (roundF (valueF nm us s).1 (valueF nm us s).2 n).1, .int .i64 (roundF (valueF nm us s).1 (valueF nm us s).2 n).2]) ∧ Below w.heap.size w w' := by
  have Y0 := Cel.new w 33 #[.string nm, .slice A us.length c]
  have hw0 : Below w.heap.size w (w.alloc (.cells #[.string nm, .slice A us.length c] 33)) := below_alloc' _ _
  obtain ⟨W, hW⟩ : ∃ W, w.alloc (.cells #[.string nm, .slice A us.length c] 33) = W := ⟨_, rfl⟩
  rw [hW] at Y0 hw0
  have HW0 := Lib.hid hw0
  have a0 := Y0.cell 0 (.string nm) rfl
  have a1 := Y0.cell 1 (.slice A us.length c) rfl
  have HV := Lib.hid (rvalue_any nm hnm A c us s W (hsl.below hw0))
  have HBD := Lib.hid (fun h => valueF_bd (nm := nm) (us := us) (s := s) h)
  clear hsl Y0 hw0
  generalize valueF nm us s = q at *
  obtain ⟨v, e⟩ := q
  simp only at HBD HV ⊢
  go_enter Tryd.func58, Tryd.ntmps58
  by_cases he : e = 0
  · have de : (e != 0) = false := by simp [he]
    by_cases h0 : 0 ≤ n
    · have d0 : decide (n < 0) = false := decide_eq_false (by omega)
      by_cases h1 : n ≤ 1099511627776
      · have d1 : decide (1099511627776 < n) = false := decide_eq_false (by omega)
        obtain ⟨v1, v2⟩ := HBD.out he
        have hv0 : ¬ v = 0 := by omega
        have HF0 := Lib.hid (show roundF v e n = (if v ≤ 2 * (n - n / v * v) then (if n / v * v + v ≤ 1099511627776 then (n / v * v + v, 0) else (0, 6)) else (n / v * v, 0)) by rw [roundF, if_pos he, rangeB_in h0 h1]; rfl)
        obtain ⟨q1, q2, q3, q4, q5⟩ := div_bd h0 v1
        have q6 : -9223372036854775808 ≤ n / v * v := by omega
        have q7 : n / v * v ≤ 9223372036854775807 := by omega
        clear he
        by_cases h2 : v ≤ 2 * (n - n / v * v)
        · have d2 : decide (n - n / v * v < v - (n - n / v * v)) = false := decide_eq_false (by omega)
          by_cases h3 : n / v * v + v ≤ 1099511627776
          · have HF := Lib.hid (show roundF v e n = (n / v * v + v, 0) by rw [HF0.out, if_pos h2, if_pos h3])
            have d3 : decide (1099511627776 < n / v * v + v) = false := decide_eq_false (by omega)
            go_wp2_with (go_at_call 30; refine HV.out.mono ?_; rintro e' w1 ⟨rfl, hb1⟩)
            go_ret2
            exact ⟨by rw [HF.out] <;> rfl, below_then HW0.out hb1⟩
          · have HF := Lib.hid (show roundF v e n = (0, 6) by rw [HF0.out, if_pos h2, if_neg h3])
            have d3 : decide (1099511627776 < n / v * v + v) = true := decide_eq_true (by omega)
            go_wp2_with (go_at_call 30; refine HV.out.mono ?_; rintro e' w1 ⟨rfl, hb1⟩)
            go_ret2
            exact ⟨by rw [HF.out] <;> rfl, below_then HW0.out hb1⟩
        · have d2 : decide (n - n / v * v < v - (n - n / v * v)) = true := decide_eq_true (by omega)
          have HF := Lib.hid (show roundF v e n = (n / v * v, 0) by rw [HF0.out, if_neg h2])
          go_wp2_with (go_at_call 30; refine HV.out.mono ?_; rintro e' w1 ⟨rfl, hb1⟩)
          go_ret2
          exact ⟨by rw [HF.out] <;> rfl, below_then HW0.out hb1⟩
      · have d1 : decide (1099511627776 < n) = true := decide_eq_true (by omega)
        have HF := Lib.hid (show roundF v e n = (0, 8) by rw [roundF, if_pos he, rangeB_big h1]; rfl)
        clear he
        go_wp2_with (go_at_call 30; refine HV.out.mono ?_; rintro e' w1 ⟨rfl, hb1⟩)
        go_ret2
        exact ⟨by rw [HF.out] <;> rfl, below_then HW0.out hb1⟩
    · have d0 : decide (n < 0) = true := decide_eq_true (by omega)
      have HF := Lib.hid (show roundF v e n = (0, 8) by rw [roundF, if_pos he, rangeB_lo h0]; rfl)
      clear he
      go_wp2_with (go_at_call 30; refine HV.out.mono ?_; rintro e' w1 ⟨rfl, hb1⟩)
      go_ret2
      exact ⟨by rw [HF.out] <;> rfl, below_then HW0.out hb1⟩
  · have de : (e != 0) = true := by simp [he]
    have HF := Lib.hid (show roundF v e n = (0, e) by rw [roundF, if_neg he])
    go_wp2_with (go_at_call 30; refine HV.out.mono ?_; rintro e' w1 ⟨rfl, hb1⟩)
    go_ret2
    exact ⟨by rw [HF.out] <;> rfl, below_then HW0.out hb1⟩
end Go.Proofs.YtmibpncmebhbjaaDoor
