/- Walks of the reference: asked, parent. Conditions: those stated. -/
import Derived.Test.YtdmcopjbckelmaaGreatDoorZG1
import Derived.Test.YtdmcopjbckelmaaGreatDoorZE
import Derived.Test.YtdmcopjbckelmaaGreatDoorZH1
namespace Go.Proofs.YtdmcopjbckelmaaGreatDoor
open Go Go.RowKit Go.Shelf
attribute [local go_sem] Oper.semAt_some

theorem named_two (ps : List ByteArray) (fs : List Fa) (a b : ByteArray) (hc : checkF ps fs = 0) : namedF ps fs [a, b] = if a ∈ ps ∧ b ∈ ps then 0 else 2 := by
  unfold namedF allN
  rw [hc, if_neg (by decide)]
  simp only [List.all_cons, List.all_nil, Bool.and_true]
  by_cases h : a ∈ ps ∧ b ∈ ps
  · rw [if_pos h, if_pos (by rw [memB_iff.2 h.1, memB_iff.2 h.2]; rfl)]
  · rw [if_neg h, if_neg]
    rw [Bool.and_eq_true, memB_iff, memB_iff]
    exact h
set_option maxHeartbeats 2000000 in
theorem asked_any (A : Option Addr) (n c : Nat) (F : Option Addr) (m d : Nat) (ps : List ByteArray) (fs : List Fa) (a b : ByteArray) (w : World) (h : NetC w A n c F m d ps fs) (hs : Short ps) :
    Calls Tryz.prog 82 #[.agg #[.slice A n c, .slice F m d], .string a, .string b] w fun e w' => e = .returned (.int .i64 (namedF ps fs [a, b])) ∧ Below w.heap.size w w' := by
  have hb0 := below_alloc' w (.cells #[.slice A n c, .slice F m d] 25)
  have y0 := Cel.new w 25 #[.slice A n c, .slice F m d]
  have HN := Lib.hid h
  have bad : ∀ r : Int, (r = 3 ∨ r = 100) → checkF ps fs = r → Calls Tryz.prog 82 #[.agg #[.slice A n c, .slice F m d], .string a, .string b] w fun e w' => e = .returned (.int .i64 r) ∧ Below w.heap.size w w' := by
    intro r hr hc
    have HK := Lib.hid (rcheck_any A n c F m d ps fs _ (h.below hb0) hs)
    rw [hc] at HK
    clear hc y0 h hs
    rcases hr with rfl | rfl
    all_goals
      go_enter Tryz.func82, Tryz.ntmps82
      go_wp2_with fail
      refine HK.out.mono ?_
      rintro e w1 ⟨rfl, hb1⟩
      have HB := Lib.hid (hb0.trans (hb1.mono hb0.size))
      clear hb0 hb1
      go_wp2
      go_ret
      exact ⟨rfl, HB.out⟩
  rcases checkF_cases ps fs with hc | hc | ⟨hc, _⟩
  · have := bad 3 (.inl rfl) hc
    unfold namedF
    rw [hc, if_pos (by decide)]
    exact this
  · have := bad 100 (.inr rfl) hc
    unfold namedF
    rw [hc, if_pos (by decide)]
    exact this
  · clear bad
    have HK := Lib.hid (rcheck_any A n c F m d ps fs _ (h.below hb0) hs)
    rw [hc] at HK
    rw [named_two ps fs a b hc]
    obtain ⟨r, hrr⟩ : ∃ r : Int, (if a ∈ ps ∧ b ∈ ps then (0 : Int) else 2) = r := ⟨_, rfl⟩
    rw [hrr]
    have HRr := Lib.hid hrr
    clear hrr
    obtain ⟨i, hi⟩ : ∃ i, atF ps a = i := ⟨_, rfl⟩
    obtain ⟨j, hj⟩ : ∃ j, atF ps b = j := ⟨_, rfl⟩
    have KA := Lib.hid (fun w' (hw : Below w.heap.size w w') => rAt_in w' (h.people.below hw) hi)
    have KB := Lib.hid (fun w' (hw : Below w.heap.size w w') => rAt_in w' (h.people.below hw) hj)
    have ia := Lib.hid (show i < 0 ↔ ¬ a ∈ ps by rw [← hi]; exact atF_neg)
    have jb := Lib.hid (show j < 0 ↔ ¬ b ∈ ps by rw [← hj]; exact atF_neg)
    clear hi hj hc h hs
    go_enter Tryz.func82, Tryz.ntmps82
    go_wp2_with fail
    refine HK.out.mono ?_
    rintro e w1 ⟨rfl, hb1⟩
    have HB := Lib.hid (hb0.trans (hb1.mono hb0.size))
    have HY := Lib.hid (y0.below y0.lt hb1)
    have z0 := HY.out.cell 0 _ rfl
    clear hb0 hb1 y0
    go_wp2_with fail
    refine (KA.out _ HB.out).mono ?_
    rintro e w' ⟨rfl, rfl⟩
    by_cases h0 : i < 0
    · obtain rfl : r = 2 := by rw [← HRr.out, if_neg (fun q => (ia.out.1 h0) q.1)]
      go_wp2
      go_ret
      exact ⟨rfl, HB.out⟩
    · have HI0 := Lib.hid h0
      go_wp2_with fail
      refine (KB.out _ HB.out).mono ?_
      rintro e w' ⟨rfl, rfl⟩
      by_cases h1 : j < 0
      · obtain rfl : r = 2 := by rw [← HRr.out, if_neg (fun q => (jb.out.1 h1) q.2)]
        go_wp2
        go_ret
        exact ⟨rfl, HB.out⟩
      · obtain rfl : r = 0 := by rw [← HRr.out, if_pos ⟨Classical.byContradiction fun q => by have := ia.out.2 q; have := HI0.out; omega, Classical.byContradiction fun q => by have := jb.out.2 q; omega⟩]
        go_wp2
        go_ret
        exact ⟨rfl, HB.out⟩
theorem parB_at {fs : List Fa} {a b : ByteArray} {k : Nat} {f : Fa} (hf : fs[k]? = some f) (h1 : f.kind = 1) (h2 : f.a = a) (h3 : f.b = b) : parB fs a b = true := by
  unfold parB
  rw [List.any_eq_true]
  exact ⟨f, List.mem_of_getElem? hf, by simp [h1, h2, h3]⟩
theorem parB_none {fs : List Fa} {a b : ByteArray} (h : ∀ (k : Nat) f, k < fs.length → fs[k]? = some f → ¬ (f.kind = 1 ∧ f.a = a ∧ f.b = b)) : parB fs a b = false := by
  unfold parB
  rw [List.any_eq_false]
  intro f hf
  obtain ⟨k, hk, e⟩ := List.mem_iff_getElem.1 hf
  have := h k f hk (by rw [List.getElem?_eq_getElem hk, e])
  simpa using this
set_option maxHeartbeats 2000000 in
theorem parent_any (A : Option Addr) (n c : Nat) (F : Option Addr) (m d : Nat) (ps : List ByteArray) (fs : List Fa) (a b : ByteArray) (w : World) (h : NetC w A n c F m d ps fs) :
    Calls Tryz.prog 83 #[.agg #[.slice A n c, .slice F m d], .string a, .string b] w fun e w' => e = .returned (.bool (parB fs a b)) ∧ Below w.heap.size w w' := by
  obtain ⟨e1, e2, _, h2, _, h4⟩ := h.many
  subst e1
  subst e2
  have hb0 := below_alloc' w (.cells #[.slice A ps.length c, .slice F fs.length d] 25)
  have y0 := Cel.new w 25 #[.slice A ps.length c, .slice F fs.length d]
  have HFc := Lib.hid (fun q => h.fact q)
  have HB := Lib.hid hb0
  have HY := Lib.hid y0
  have HR : ∀ r, parB fs a b = r → Hid (parB fs a b = r) := fun r h => Lib.hid h
  have z1 := y0.cell 1 _ rfl
  clear h hb0 y0
  go_enter Tryz.func83, Tryz.ntmps83
  go_wp2
  generalize w.alloc (.cells #[.slice A ps.length c, .slice F fs.length d] 25) = W at *
  go_loop [7] (fun ti => ∃ k : Nat, ti = .int .i64 k ∧ k ≤ fs.length ∧ Hid (∀ (j : Nat) f, j < k → fs[j]? = some f → ¬ (f.kind = 1 ∧ f.a = a ∧ f.b = b))) (fun ti => fs.length - (intOf ti).toNat)
  case atStart => exact ⟨0, rfl, by omega, fun j f hj => absurd hj (Nat.not_lt_zero _)⟩
  case round =>
    obtain ⟨k, rfl, hk, HO⟩ := hrel
    by_cases hlt : k < fs.length
    · have hki : (k : Int) < (fs.length : Int) := by omega
      have hk0 : (0 : Int) ≤ (k : Int) := by omega
      obtain ⟨b0, o0, rfl, _, hce⟩ := HFc.out (by omega)
      have hfj : fs[k]? = some fs[k] := List.getElem?_eq_getElem hlt
      obtain ⟨g1, g2, g3, _⟩ := hce k _ hfj
      replace g1 := below_cell HB.out g1
      replace g2 := below_cell HB.out g2
      replace g3 := below_cell HB.out g3
      have HNx := Lib.hid (fun (q : ¬ (fs[k].kind = 1 ∧ fs[k].a = a ∧ fs[k].b = b)) => show ∀ (j : Nat) f, j < k + 1 → fs[j]? = some f → ¬ (f.kind = 1 ∧ f.a = a ∧ f.b = b) from fun j f hj hf => by
        rcases Nat.lt_succ_iff_lt_or_eq.1 hj with e | e
        · exact HO.out j f e hf
        · rw [e, hfj] at hf; cases hf; exact q)
      have HYs := Lib.hid (fun h1 h2 h3 => parB_at (a := a) (b := b) hfj h1 h2 h3)
      clear hce hfj
      generalize fs[k] = f at *
      obtain ⟨fk, fa, fb, ft⟩ := f
      simp only at g1 g2 g3 HNx HYs
      by_cases c1 : fk = 1
      · subst c1
        by_cases c2 : fa = a
        · subst c2
          have q2 : (fa.toList == fa.toList) = true := by simp
          by_cases c3 : fb = b
          · subst c3
            have q3 : (fb.toList == fb.toList) = true := by simp
            have hr := HR true (HYs.out rfl rfl rfl)
            clear HR
            go_wp2
            go_ret
            exact ⟨by rw [hr.out]; rfl, HB.out⟩
          · have q3 : (fb.toList == b.toList) = false := by rw [Bool.eq_false_iff]; intro z; exact c3 ((Lib.bytes_beq_iff _ _).1 z)
            have HX := Lib.hid (HNx.out (fun z => c3 z.2.2))
            clear HR c3
            go_wp2
            exact ⟨⟨k + 1, by go_num, by omega, HX.out⟩, by simp [intOf]; omega⟩
        · have q2 : (fa.toList == a.toList) = false := by rw [Bool.eq_false_iff]; intro z; exact c2 ((Lib.bytes_beq_iff _ _).1 z)
          have HX := Lib.hid (HNx.out (fun z => c2 z.2.1))
          clear HR c2
          go_wp2
          exact ⟨⟨k + 1, by go_num, by omega, HX.out⟩, by simp [intOf]; omega⟩
      · have q1 : (fk == 1) = false := beq_eq_false_iff_ne.2 c1
        have HX := Lib.hid (HNx.out (fun z => c1 z.1))
        clear HR c1
        go_wp2
        exact ⟨⟨k + 1, by go_num, by omega, HX.out⟩, by simp [intOf]; omega⟩
    · have hr := HR false (parB_none (fun j f hj hf => HO.out j f (by omega) hf))
      clear HR
      go_wp2
      go_ret
      exact ⟨by rw [hr.out]; rfl, HB.out⟩
end Go.Proofs.YtdmcopjbckelmaaGreatDoor
