/- The walks of Chain and Ladder of a book. -/
import Derived.Test.YtmibpncmebhbjaaDoorP9
namespace Go.Proofs.YtmibpncmebhbjaaDoor
open Go Go.RowKit Go.Shelf
attribute [local go_sem] Oper.semAt_some rrV

def chainE (n : Nat) : Int := if n = 0 then 2 else if n ≤ 64 then 0 else 3
def chainF (st : St) (names : List ByteArray) : RR := if chainE names.length = 0 then (if alongE st names = 0 then fit (alongQ st names) else ⟨0, 0, alongE st names⟩) else ⟨0, 0, chainE names.length⟩

set_option maxRecDepth 100000 in
set_option maxHeartbeats 2000000 in
theorem chain_any (Bk bm : Nat) (lv gv fv : Value) (st : St) (names : List ByteArray) (v : Value) (w : World) (hb : BookV w Bk bm lv gv fv st) (hg : Good st) (hv : Sl w 1 v (namesV names)) :
    Calls Tryd.prog 44 #[.pointer (some ⟨Bk, 0, none⟩), v] w fun e w' => e = .returned (rrV (chainF st names)) ∧ Below w.heap.size w w' := by
  obtain ⟨A, c, rfl, hlc, hcm, _⟩ := hv.open1
  simp only [namesV, List.length_map] at hlc ⊢
  have Y := Cel.new w 23 #[.int .i64 0, .int .i64 0]
  have hw0 : Below w.heap.size w (w.alloc (.cells #[.int .i64 0, .int .i64 0] 23)) := below_alloc' _ _
  obtain ⟨W, hW⟩ : ∃ W, w.alloc (.cells #[.int .i64 0, .int .i64 0] 23) = W := ⟨_, rfl⟩
  rw [hW] at Y hw0
  have hnn := none_no Bk bm lv gv fv W (hb.below hw0).blk
  have HBK := Lib.hid hb
  have HGD := Lib.hid hg
  have HV := Lib.hid (show Sl w 1 (.slice A names.length c) (namesV names) by simpa [namesV] using hv)
  have HY := Lib.hid Y
  have HW := Lib.hid hw0
  have HNN := Lib.hid hnn
  have H1 : Hid (∀ w : World, ∀ e1 e2, Calls Tryd.prog 102 #[.slice (some ⟨w.heap.size, 0, none⟩) 2 2] (w.alloc (.cells #[.int .i64 e1, .int .i64 e2] 24)) fun e w' => e = .returned (.int .i64 (firstF [e1, e2])) ∧ w.alloc (.cells #[.int .i64 e1, .int .i64 e2] 24) = w') := fun w e1 e2 => first2_any _ _ _ w rfl
  clear hnn Y hw0 hb hg hv
  go_enter Tryd.func44, Tryd.ntmps44
  go_wp2_with fail
  go_fit HNN.out
  rintro e w' ⟨rfl, rfl⟩
  rcases Nat.eq_zero_or_pos names.length with h0 | h0
  · have HF := Lib.hid (show chainF st names = ⟨0, 0, 2⟩ by unfold chainF; rw [h0]; rfl)
    rw [h0]
    have K1 := Lib.hid (fun w => need_no 2 w)
    have K2 := Lib.hid (fun w => need_yes 3 w)
    have H2 := Lib.hid (H1.out W 2 0)
    clear h0
    go_wp2_with fail
    go_fit (K1.out W)
    rintro e w' ⟨rfl, rfl⟩
    go_wp2_with fail
    go_fit (K2.out W)
    rintro e w' ⟨rfl, rfl⟩
    go_wp2_with fail
    have hc := H2.out
    have e2 : firstF [2, 0] = 2 := rfl
    rw [e2] at hc
    go_fit hc
    rintro e w' ⟨rfl, rfl⟩
    have y := HY.out.alloc (.cells #[.int .i64 2, .int .i64 0] 24)
    have r0 := y.cell 0 (.int .i64 0) rfl
    have r1 := y.cell 1 (.int .i64 0) rfl
    have f0 := y.frozen 0
    have f1 := y.frozen 1
    have k5 := y.set2 (.int .i64 0) (.int .i64 0)
    have s0 := k5.cell 0 (.int .i64 0) rfl
    have s1 := k5.cell 1 (.int .i64 0) rfl
    clear hc y k5
    go_wp2
    exact bodyPost_ret (v := .tuple #[.agg #[.int .i64 0, .int .i64 0], .int .i64 2]) (by simp [results, Tryd.results44, go_sem, s0, s1]) rfl
      ⟨by rw [HF.out] <;> rfl, ((HW.out.alloc HW.out.size _).setCell (p := ⟨w.heap.size, 0, none⟩) (by simp) _).setCell (p := ⟨w.heap.size, 1, none⟩) (by simp) _⟩
  · have d0 : decide (0 < names.length) = true := decide_eq_true h0
    have d0' : decide ((0 : Int) < (names.length : Int)) = true := decide_eq_true (by omega)
    have K1 := Lib.hid (fun w => need_yes 2 w)
    by_cases h1 : names.length ≤ 64
    · have d1 : decide ((names.length : Int) ≤ 64) = true := decide_eq_true (by omega)
      have K2 := Lib.hid (fun w => need_yes 3 w)
      have HF := Lib.hid (show chainF st names = (if alongE st names = 0 then fit (alongQ st names) else ⟨0, 0, alongE st names⟩) by unfold chainF; rw [if_pos]; unfold chainE; rw [if_neg (by omega), if_pos h1])
      have hw1 := HW.out.alloc HW.out.size (.cells #[.int .i64 0, .int .i64 0] 24)
      have hal := along_any Bk bm lv gv fv (.slice A names.length c) st names (W.alloc (.cells #[.int .i64 0, .int .i64 0] 24)) (HBK.out.below hw1) HGD.out (HV.out.below hw1) (by omega)
      have HAL := Lib.hid hal
      have HW1 := Lib.hid hw1
      have H2 := Lib.hid (H1.out W 0 0)
      clear h0 h1 hal hw1
      generalize names.length = nl at *
      generalize alongE st names = q0 at *
      generalize alongQ st names = q1 at *
      go_wp2_with fail
      go_fit (K1.out W)
      rintro e w' ⟨rfl, rfl⟩
      go_wp2_with fail
      go_fit (K2.out W)
      rintro e w' ⟨rfl, rfl⟩
      go_wp2_with fail
      have hc := H2.out
      have e2 : firstF [0, 0] = 0 := rfl
      rw [e2] at hc
      go_fit hc
      rintro e w' ⟨rfl, rfl⟩
      clear hc e2
      go_wp2_with fail
      go_fit HAL.out
      rintro e w2 ⟨r, rfl, hb2, hp2⟩
      obtain ⟨X1, m1, i1, X2, m2, i2, rfl⟩ := hp2.shape
      have HP2 := Lib.hid (hp2.below (below_alloc' w2 (.cells #[.slice X1 m1 i1, .slice X2 m2 i2] 121)))
      have HB2 := Lib.hid (below_then HW1.out (hb2.alloc hb2.size (.cells #[.slice X1 m1 i1, .slice X2 m2 i2] 121)))
      have HY2 := Lib.hid (((HY.out.alloc (.cells #[.int .i64 0, .int .i64 0] 24)).below (HY.out.alloc _).lt hb2).alloc (.cells #[.slice X1 m1 i1, .slice X2 m2 i2] 121))
      clear hb2 hp2
      by_cases hq : q0 = 0
      · rw [if_pos hq] at HF
        subst hq
        go_wp2_with fail
        have hc := pratio_pv _ q1 _ _ HP2.out (by decide)
        go_fit hc
        rintro e w3 ⟨rfl, hb3⟩
        have y := HY2.out.below HY2.out.lt hb3
        have HB3 := Lib.hid (below_then HB2.out hb3)
        have r0 := y.cell 0 (.int .i64 0) rfl
        have r1 := y.cell 1 (.int .i64 0) rfl
        have f0 := y.frozen 0
        have f1 := y.frozen 1
        obtain ⟨r, hr⟩ : ∃ r, fit q1 = r := ⟨_, rfl⟩
        rw [hr]
        have HRR := Lib.hid hr
        have k5 := y.set2 (.int .i64 r.n) (.int .i64 r.d)
        have s0 := k5.cell 0 (.int .i64 r.n) rfl
        have s1 := k5.cell 1 (.int .i64 r.d) rfl
        clear hc y k5 hb3 hr
        go_wp2
        exact bodyPost_ret (v := .tuple #[.agg #[.int .i64 r.n, .int .i64 r.d], .int .i64 r.e]) (by simp [results, Tryd.results44, go_sem, s0, s1]) rfl
          ⟨by rw [HF.out, HRR.out] <;> rfl, (HB3.out.setCell (p := ⟨w.heap.size, 0, none⟩) (by simp) _).setCell (p := ⟨w.heap.size, 1, none⟩) (by simp) _⟩
      · rw [if_neg hq] at HF
        have bq : (q0 != 0) = true := by simpa using hq
        have y := HY2.out
        have r0 := y.cell 0 (.int .i64 0) rfl
        have r1 := y.cell 1 (.int .i64 0) rfl
        have f0 := y.frozen 0
        have f1 := y.frozen 1
        have k5 := y.set2 (.int .i64 0) (.int .i64 0)
        have s0 := k5.cell 0 (.int .i64 0) rfl
        have s1 := k5.cell 1 (.int .i64 0) rfl
        clear hq y k5
        go_wp2
        exact bodyPost_ret (v := .tuple #[.agg #[.int .i64 0, .int .i64 0], .int .i64 q0]) (by simp [results, Tryd.results44, go_sem, s0, s1]) rfl
          ⟨by rw [HF.out] <;> rfl, (HB2.out.setCell (p := ⟨w.heap.size, 0, none⟩) (by simp) _).setCell (p := ⟨w.heap.size, 1, none⟩) (by simp) _⟩
    · have d1 : decide ((names.length : Int) ≤ 64) = false := decide_eq_false (by omega)
      have K2 := Lib.hid (fun w => need_no 3 w)
      have HF := Lib.hid (show chainF st names = ⟨0, 0, 3⟩ by
        have e : chainE names.length = 3 := by unfold chainE; rw [if_neg (by omega), if_neg h1]
        unfold chainF; rw [e]; rfl)
      have H2 := Lib.hid (H1.out W 0 3)
      clear h0 h1
      generalize names.length = nl at *
      go_wp2_with fail
      go_fit (K1.out W)
      rintro e w' ⟨rfl, rfl⟩
      go_wp2_with fail
      go_fit (K2.out W)
      rintro e w' ⟨rfl, rfl⟩
      go_wp2_with fail
      have hc := H2.out
      have e2 : firstF [0, 3] = 3 := rfl
      rw [e2] at hc
      go_fit hc
      rintro e w' ⟨rfl, rfl⟩
      have y := HY.out.alloc (.cells #[.int .i64 0, .int .i64 3] 24)
      have r0 := y.cell 0 (.int .i64 0) rfl
      have r1 := y.cell 1 (.int .i64 0) rfl
      have f0 := y.frozen 0
      have f1 := y.frozen 1
      have k5 := y.set2 (.int .i64 0) (.int .i64 0)
      have s0 := k5.cell 0 (.int .i64 0) rfl
      have s1 := k5.cell 1 (.int .i64 0) rfl
      clear hc y k5
      go_wp2
      exact bodyPost_ret (v := .tuple #[.agg #[.int .i64 0, .int .i64 0], .int .i64 3]) (by simp [results, Tryd.results44, go_sem, s0, s1]) rfl
        ⟨by rw [HF.out] <;> rfl, ((HW.out.alloc HW.out.size _).setCell (p := ⟨w.heap.size, 0, none⟩) (by simp) _).setCell (p := ⟨w.heap.size, 1, none⟩) (by simp) _⟩
end Go.Proofs.YtmibpncmebhbjaaDoor
