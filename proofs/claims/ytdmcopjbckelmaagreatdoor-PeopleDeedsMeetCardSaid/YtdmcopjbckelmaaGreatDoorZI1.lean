/- Walks of the reference: asked, parent. Conditions: those stated. Walks of the reference: Merge. Conditions: those stated. Walks of the reference: Same. Conditions: those stated. -/
import Derived.Test.YtdmcopjbckelmaaGreatDoorZG1
import Derived.Test.YtdmcopjbckelmaaGreatDoorZE
import Derived.Test.YtdmcopjbckelmaaGreatDoorZH1
import Derived.Test.YtdmcopjbckelmaaGreatDoorZF1
import Derived.Test.YtdmcopjbckelmaaGreatDoorZG5
import Derived.Test.YtdmcopjbckelmaaGreatDoorZV2
import Derived.Test.YtdmcopjbckelmaaGreatDoorZG8
import Derived.BigQuiet
namespace Go.Proofs.YtdmcopjbckelmaaGreatDoor
section
open Go Go.RowKit Go.Shelf
attribute [local go_sem] Oper.semAt_some

theorem named_two (ps : List ByteArray) (fs : List Fa) (a b : ByteArray) (hc : checkF ps fs = 0) : namedF ps fs [a, b] = if a ∈ ps ∧ b ∈ ps then 0 else 2 := by
  unfold namedF allN
  rw [hc, if_neg (by decide)]
  simp only [List.all_cons, List.all_nil, Bool.and_true]
  by_cases h : a ∈ ps ∧ b ∈ ps
  · rw [if_pos h, if_pos (by rw [memB_iff.2 h.1, memB_iff.2 h.2]; rfl)]
  · rw [if_neg h, if_neg]
    rw [Bool.and_eq_true, memB_iff, memB_iff]
    exact h
set_option maxHeartbeats 2000000 in
theorem asked_any (A : Option Addr) (n c : Nat) (F : Option Addr) (m d : Nat) (ps : List ByteArray) (fs : List Fa) (a b : ByteArray) (w : World) (h : NetC w A n c F m d ps fs) (hs : Short ps) :
    Calls Tryz.prog 82 #[.agg #[.slice A n c, .slice F m d], .string a, .string b] w fun e w' => e = .returned (.int .i64 (namedF ps fs [a, b])) ∧ Below w.heap.size w w' := by
  have hb0 := below_alloc' w (.cells #[.slice A n c, .slice F m d] 25)
  have y0 := Cel.new w 25 #[.slice A n c, .slice F m d]
  have HN := Lib.hid h
  have bad : ∀ r : Int, (r = 3 ∨ r = 100) → checkF ps fs = r → Calls Tryz.prog 82 #[.agg #[.slice A n c, .slice F m d], .string a, .string b] w fun e w' => e = .returned (.int .i64 r) ∧ Below w.heap.size w w' := by
    intro r hr hc
    have HK := Lib.hid (rcheck_any A n c F m d ps fs _ (h.below hb0) hs)
    rw [hc] at HK
    clear hc y0 h hs
    rcases hr with rfl | rfl
    all_goals
      go_enter Tryz.func82, Tryz.ntmps82
      go_wp2_with fail
      refine HK.out.mono ?_
      rintro e w1 ⟨rfl, hb1⟩
      have HB := Lib.hid (hb0.trans (hb1.mono hb0.size))
      clear hb0 hb1
      go_wp2
      go_ret
      exact ⟨rfl, HB.out⟩
  rcases checkF_cases ps fs with hc | hc | ⟨hc, _⟩
  · have := bad 3 (.inl rfl) hc
    unfold namedF
    rw [hc, if_pos (by decide)]
    exact this
  · have := bad 100 (.inr rfl) hc
    unfold namedF
    rw [hc, if_pos (by decide)]
    exact this
  · clear bad
    have HK := Lib.hid (rcheck_any A n c F m d ps fs _ (h.below hb0) hs)
    rw [hc] at HK
    rw [named_two ps fs a b hc]
    obtain ⟨r, hrr⟩ : ∃ r : Int, (if a ∈ ps ∧ b ∈ ps then (0 : Int) else 2) = r := ⟨_, rfl⟩
    rw [hrr]
    have HRr := Lib.hid hrr
    clear hrr
    obtain ⟨i, hi⟩ : ∃ i, atF ps a = i := ⟨_, rfl⟩
    obtain ⟨j, hj⟩ : ∃ j, atF ps b = j := ⟨_, rfl⟩
    have KA := Lib.hid (fun w' (hw : Below w.heap.size w w') => rAt_in w' (h.people.below hw) hi)
    have KB := Lib.hid (fun w' (hw : Below w.heap.size w w') => rAt_in w' (h.people.below hw) hj)
    have ia := Lib.hid (show i < 0 ↔ ¬ a ∈ ps by rw [← hi]; exact atF_neg)
    have jb := Lib.hid (show j < 0 ↔ ¬ b ∈ ps by rw [← hj]; exact atF_neg)
    clear hi hj hc h hs
    go_enter Tryz.func82, Tryz.ntmps82
    go_wp2_with fail
    refine HK.out.mono ?_
    rintro e w1 ⟨rfl, hb1⟩
    have HB := Lib.hid (hb0.trans (hb1.mono hb0.size))
    have HY := Lib.hid (y0.below y0.lt hb1)
    have z0 := HY.out.cell 0 _ rfl
    clear hb0 hb1 y0
    go_wp2_with fail
    refine (KA.out _ HB.out).mono ?_
    rintro e w' ⟨rfl, rfl⟩
    by_cases h0 : i < 0
    · obtain rfl : r = 2 := by rw [← HRr.out, if_neg (fun q => (ia.out.1 h0) q.1)]
      go_wp2
      go_ret
      exact ⟨rfl, HB.out⟩
    · have HI0 := Lib.hid h0
      go_wp2_with fail
      refine (KB.out _ HB.out).mono ?_
      rintro e w' ⟨rfl, rfl⟩
      by_cases h1 : j < 0
      · obtain rfl : r = 2 := by rw [← HRr.out, if_neg (fun q => (jb.out.1 h1) q.2)]
        go_wp2
        go_ret
        exact ⟨rfl, HB.out⟩
      · obtain rfl : r = 0 := by rw [← HRr.out, if_pos ⟨Classical.byContradiction fun q => by have := ia.out.2 q; have := HI0.out; omega, Classical.byContradiction fun q => by have := jb.out.2 q; omega⟩]
        go_wp2
        go_ret
        exact ⟨rfl, HB.out⟩
theorem parB_at {fs : List Fa} {a b : ByteArray} {k : Nat} {f : Fa} (hf : fs[k]? = some f) (h1 : f.kind = 1) (h2 : f.a = a) (h3 : f.b = b) : parB fs a b = true := by
  unfold parB
  rw [List.any_eq_true]
  exact ⟨f, List.mem_of_getElem? hf, by simp [h1, h2, h3]⟩
theorem parB_none {fs : List Fa} {a b : ByteArray} (h : ∀ (k : Nat) f, k < fs.length → fs[k]? = some f → ¬ (f.kind = 1 ∧ f.a = a ∧ f.b = b)) : parB fs a b = false := by
  unfold parB
  rw [List.any_eq_false]
  intro f hf
  obtain ⟨k, hk, e⟩ := List.mem_iff_getElem.1 hf
  have := h k f hk (by rw [List.getElem?_eq_getElem hk, e])
  simpa using this
set_option maxHeartbeats 2000000 in
theorem parent_any (A : Option Addr) (n c : Nat) (F : Option Addr) (m d : Nat) (ps : List ByteArray) (fs : List Fa) (a b : ByteArray) (w : World) (h : NetC w A n c F m d ps fs) :
    Calls Tryz.prog 83 #[.agg #[.slice A n c, .slice F m d], .string a, .string b] w fun e w' => e = .returned (.bool (parB fs a b)) ∧ Below w.heap.size w w' := by
  obtain ⟨e1, e2, _, h2, _, h4⟩ := h.many
  subst e1
  subst e2
  have hb0 := below_alloc' w (.cells #[.slice A ps.length c, .slice F fs.length d] 25)
  have y0 := Cel.new w 25 #[.slice A ps.length c, .slice F fs.length d]
  have HFc := Lib.hid (fun q => h.fact q)
  have HB := Lib.hid hb0
  have HY := Lib.hid y0
  have HR : ∀ r, parB fs a b = r → Hid (parB fs a b = r) := fun r h => Lib.hid h
  have z1 := y0.cell 1 _ rfl
  clear h hb0 y0
  go_enter Tryz.func83, Tryz.ntmps83
  go_wp2
  generalize w.alloc (.cells #[.slice A ps.length c, .slice F fs.length d] 25) = W at *
  go_loop [7] (fun ti => ∃ k : Nat, ti = .int .i64 k ∧ k ≤ fs.length ∧ Hid (∀ (j : Nat) f, j < k → fs[j]? = some f → ¬ (f.kind = 1 ∧ f.a = a ∧ f.b = b))) (fun ti => fs.length - (intOf ti).toNat)
  case atStart => exact ⟨0, rfl, by omega, fun j f hj => absurd hj (Nat.not_lt_zero _)⟩
  case round =>
    obtain ⟨k, rfl, hk, HO⟩ := hrel
    by_cases hlt : k < fs.length
    · have hki : (k : Int) < (fs.length : Int) := by omega
      have hk0 : (0 : Int) ≤ (k : Int) := by omega
      obtain ⟨b0, o0, rfl, _, hce⟩ := HFc.out (by omega)
      have hfj : fs[k]? = some fs[k] := List.getElem?_eq_getElem hlt
      obtain ⟨g1, g2, g3, _⟩ := hce k _ hfj
      replace g1 := below_cell HB.out g1
      replace g2 := below_cell HB.out g2
      replace g3 := below_cell HB.out g3
      have HNx := Lib.hid (fun (q : ¬ (fs[k].kind = 1 ∧ fs[k].a = a ∧ fs[k].b = b)) => show ∀ (j : Nat) f, j < k + 1 → fs[j]? = some f → ¬ (f.kind = 1 ∧ f.a = a ∧ f.b = b) from fun j f hj hf => by
        rcases Nat.lt_succ_iff_lt_or_eq.1 hj with e | e
        · exact HO.out j f e hf
        · rw [e, hfj] at hf; cases hf; exact q)
      have HYs := Lib.hid (fun h1 h2 h3 => parB_at (a := a) (b := b) hfj h1 h2 h3)
      clear hce hfj
      generalize fs[k] = f at *
      obtain ⟨fk, fa, fb, ft⟩ := f
      simp only at g1 g2 g3 HNx HYs
      by_cases c1 : fk = 1
      · subst c1
        by_cases c2 : fa = a
        · subst c2
          have q2 : (fa.toList == fa.toList) = true := by simp
          by_cases c3 : fb = b
          · subst c3
            have q3 : (fb.toList == fb.toList) = true := by simp
            have hr := HR true (HYs.out rfl rfl rfl)
            clear HR
            go_wp2
            go_ret
            exact ⟨by rw [hr.out]; rfl, HB.out⟩
          · have q3 : (fb.toList == b.toList) = false := by rw [Bool.eq_false_iff]; intro z; exact c3 ((Lib.bytes_beq_iff _ _).1 z)
            have HX := Lib.hid (HNx.out (fun z => c3 z.2.2))
            clear HR c3
            go_wp2
            exact ⟨⟨k + 1, by go_num, by omega, HX.out⟩, by simp [intOf]; omega⟩
        · have q2 : (fa.toList == a.toList) = false := by rw [Bool.eq_false_iff]; intro z; exact c2 ((Lib.bytes_beq_iff _ _).1 z)
          have HX := Lib.hid (HNx.out (fun z => c2 z.2.1))
          clear HR c2
          go_wp2
          exact ⟨⟨k + 1, by go_num, by omega, HX.out⟩, by simp [intOf]; omega⟩
      · have q1 : (fk == 1) = false := beq_eq_false_iff_ne.2 c1
        have HX := Lib.hid (HNx.out (fun z => c1 z.1))
        clear HR c1
        go_wp2
        exact ⟨⟨k + 1, by go_num, by omega, HX.out⟩, by simp [intOf]; omega⟩
    · have hr := HR false (parB_none (fun j f hj hf => HO.out j f (by omega) hf))
      clear HR
      go_wp2
      go_ret
      exact ⟨by rw [hr.out]; rfl, HB.out⟩
end

section
open Go Go.RowKit Go.Shelf
attribute [local go_sem] Oper.semAt_some

theorem rmerge_snoc {a b : ByteArray} {fs : List Fa} {j : Nat} {f : Fa} (h : fs[j]? = some f) : rmergeF a b (fs.take (j + 1)) = rmergeF a b (fs.take j) ++ (if (renF a b f).a = (renF a b f).b then [] else [renF a b f]) := by
  unfold rmergeF
  rw [List.take_add_one, h, List.map_append, List.filter_append]
  congr 1
  by_cases e : (renF a b f).a = (renF a b f).b <;> simp [e]
theorem rmerge_len (a b : ByteArray) (fs : List Fa) (j : Nat) : (rmergeF a b (fs.take j)).length ≤ j := by
  unfold rmergeF
  exact Nat.le_trans (List.length_filter_le _ _) (by simp; omega)
set_option maxRecDepth 100000 in
set_option maxHeartbeats 8000000 in
theorem rmerge_bad (r : Int) (hr : r = 3 ∨ r = 100 ∨ r = 2) (A : Option Addr) (c : Nat) (F : Option Addr) (d : Nat) (ps : List ByteArray) (fs : List Fa) (a b : ByteArray) (w : World) (h : NetC w A ps.length c F fs.length d ps fs) (hs : Short ps) (hc : namedF ps fs [a, b] = r) :
    Calls Tryz.prog 41 #[.agg #[.slice A ps.length c, .slice F fs.length d], .string a, .string b] w (MergeP ([], [], r) w) := by
  have hb0 := (below_alloc' w (.cells #[.slice A ps.length c, .slice F fs.length d] 25)).alloc (by simp) (.cells #[.slice none 0 0, .slice none 0 0] 25)
  have y0 := (Cel.new w 25 #[.slice A ps.length c, .slice F fs.length d]).alloc (.cells #[.slice none 0 0, .slice none 0 0] 25)
  have y1 := Cel.new (w.alloc (.cells #[.slice A ps.length c, .slice F fs.length d] 25)) 25 #[.slice none 0 0, .slice none 0 0]
  simp only [World.size_alloc] at y1
  have HK := Lib.hid (asked_any A ps.length c F fs.length d ps fs a b _ (h.below hb0) hs)
  rw [hc] at HK
  clear h hs hc
  rcases hr with rfl | rfl | rfl
  all_goals
    go_enter Tryz.func41, Tryz.ntmps41
    go_wp2_with fail
    refine HK.out.mono ?_
    rintro e w1 ⟨rfl, hb1⟩
    have HB := Lib.hid (hb0.trans (hb1.mono hb0.size))
    have HNt := Lib.hid (y0.below y0.lt hb1)
    have HR := Lib.hid (y1.below y1.lt hb1)
    have z0 := HNt.out.cell 0 _ rfl
    have z1 := HNt.out.cell 1 _ rfl
    have q0 := HR.out.frozen 0
    have q1 := HR.out.frozen 1
    have q2 := HR.out.cell 0 _ rfl
    have q3 := HR.out.cell 1 _ rfl
    clear hb0 hb1 y0 y1 HK
    go_wp2
    have kk := HR.out.set2 (.slice none 0 0) (.slice none 0 0)
    have k0 := kk.cell 0 _ rfl
    have k1 := kk.cell 1 _ rfl
    have HE := Lib.hid ((HB.out.setCell (p := ⟨w.heap.size + 1, 0, none⟩) (by simp) (.slice none 0 0)).setCell (p := ⟨w.heap.size + 1, 1, none⟩) (by simp) (.slice none 0 0))
    clear kk
    first
      | exact bodyPost_ret (v := .tuple #[.agg #[.slice none 0 0, .slice none 0 0], .int .i64 3]) (by simp [results, Tryz.results41, go_sem, k0, k1]) rfl ⟨HE.out, _, _, _, _, _, _, rfl, net_nil _⟩
      | exact bodyPost_ret (v := .tuple #[.agg #[.slice none 0 0, .slice none 0 0], .int .i64 100]) (by simp [results, Tryz.results41, go_sem, k0, k1]) rfl ⟨HE.out, _, _, _, _, _, _, rfl, net_nil _⟩
      | exact bodyPost_ret (v := .tuple #[.agg #[.slice none 0 0, .slice none 0 0], .int .i64 2]) (by simp [results, Tryz.results41, go_sem, k0, k1]) rfl ⟨HE.out, _, _, _, _, _, _, rfl, net_nil _⟩
set_option maxRecDepth 100000 in
set_option maxHeartbeats 8000000 in
theorem rmerge_same (A : Option Addr) (c : Nat) (F : Option Addr) (d : Nat) (ps : List ByteArray) (fs : List Fa) (a b : ByteArray) (w : World) (h : NetC w A ps.length c F fs.length d ps fs) (hs : Short ps) (hc : namedF ps fs [a, b] = 0) (hab : a = b) :
    Calls Tryz.prog 41 #[.agg #[.slice A ps.length c, .slice F fs.length d], .string a, .string b] w (MergeP ([], [], 2) w) := by
  have hb0 := (below_alloc' w (.cells #[.slice A ps.length c, .slice F fs.length d] 25)).alloc (by simp) (.cells #[.slice none 0 0, .slice none 0 0] 25)
  have y0 := (Cel.new w 25 #[.slice A ps.length c, .slice F fs.length d]).alloc (.cells #[.slice none 0 0, .slice none 0 0] 25)
  have y1 := Cel.new (w.alloc (.cells #[.slice A ps.length c, .slice F fs.length d] 25)) 25 #[.slice none 0 0, .slice none 0 0]
  simp only [World.size_alloc] at y1
  have HK := Lib.hid (asked_any A ps.length c F fs.length d ps fs a b _ (h.below hb0) hs)
  rw [hc] at HK
  have heq : (a.toList == b.toList) = true := by rw [hab]; simp
  clear h hs hc hab
  go_enter Tryz.func41, Tryz.ntmps41
  go_wp2_with fail
  refine HK.out.mono ?_
  rintro e w1 ⟨rfl, hb1⟩
  have HB := Lib.hid (hb0.trans (hb1.mono hb0.size))
  have HNt := Lib.hid (y0.below y0.lt hb1)
  have HR := Lib.hid (y1.below y1.lt hb1)
  have z0 := HNt.out.cell 0 _ rfl
  have z1 := HNt.out.cell 1 _ rfl
  have q0 := HR.out.frozen 0
  have q1 := HR.out.frozen 1
  have q2 := HR.out.cell 0 _ rfl
  have q3 := HR.out.cell 1 _ rfl
  clear hb0 hb1 y0 y1 HK
  go_wp2
  have kk := HR.out.set2 (.slice none 0 0) (.slice none 0 0)
  have k0 := kk.cell 0 _ rfl
  have k1 := kk.cell 1 _ rfl
  have HE := Lib.hid ((HB.out.setCell (p := ⟨w.heap.size + 1, 0, none⟩) (by simp) (.slice none 0 0)).setCell (p := ⟨w.heap.size + 1, 1, none⟩) (by simp) (.slice none 0 0))
  clear kk
  exact bodyPost_ret (v := .tuple #[.agg #[.slice none 0 0, .slice none 0 0], .int .i64 2]) (by simp [results, Tryz.results41, go_sem, k0, k1]) rfl ⟨HE.out, _, _, _, _, _, _, rfl, net_nil _⟩
set_option maxRecDepth 100000 in
set_option maxHeartbeats 8000000 in
theorem rmerge_par (A : Option Addr) (c : Nat) (F : Option Addr) (d : Nat) (ps : List ByteArray) (fs : List Fa) (a b : ByteArray) (w : World) (h : NetC w A ps.length c F fs.length d ps fs) (hs : Short ps) (hc : namedF ps fs [a, b] = 0) (hab : a ≠ b) (hp : (parB fs a b || parB fs b a) = true) :
    Calls Tryz.prog 41 #[.agg #[.slice A ps.length c, .slice F fs.length d], .string a, .string b] w (MergeP ([], [], 101) w) := by
  have hb0 := (below_alloc' w (.cells #[.slice A ps.length c, .slice F fs.length d] 25)).alloc (by simp) (.cells #[.slice none 0 0, .slice none 0 0] 25)
  have y0 := (Cel.new w 25 #[.slice A ps.length c, .slice F fs.length d]).alloc (.cells #[.slice none 0 0, .slice none 0 0] 25)
  have y1 := Cel.new (w.alloc (.cells #[.slice A ps.length c, .slice F fs.length d] 25)) 25 #[.slice none 0 0, .slice none 0 0]
  simp only [World.size_alloc] at y1
  have HK := Lib.hid (asked_any A ps.length c F fs.length d ps fs a b _ (h.below hb0) hs)
  rw [hc] at HK
  have heq : (a.toList == b.toList) = false := by rw [beqL]; exact decide_eq_false hab
  have HP1 := Lib.hid (fun w' (hw : Below w.heap.size w w') => parent_any A ps.length c F fs.length d ps fs a b w' (h.below hw))
  have HP2 := Lib.hid (fun w' (hw : Below w.heap.size w w') => parent_any A ps.length c F fs.length d ps fs b a w' (h.below hw))
  cases hq : parB fs a b with
  | true =>
    rw [hq] at HP1
    clear h hs hc hab HP2 hp hq
    go_enter Tryz.func41, Tryz.ntmps41
    go_wp2_with fail
    refine HK.out.mono ?_
    rintro e w1 ⟨rfl, hb1⟩
    have HB := Lib.hid (hb0.trans (hb1.mono hb0.size))
    have HNt := Lib.hid (y0.below y0.lt hb1)
    have HR := Lib.hid (y1.below y1.lt hb1)
    have z0 := HNt.out.cell 0 _ rfl
    have z1 := HNt.out.cell 1 _ rfl
    clear hb0 hb1 y0 y1 HK
    go_wp2_with fail
    refine (HP1.out _ HB.out).mono ?_
    rintro e w2 ⟨rfl, hb2⟩
    have HBn := Lib.hid (HB.out.trans (hb2.mono HB.out.size))
    have HNn := Lib.hid (HNt.out.below HNt.out.lt hb2)
    have HRn := Lib.hid (HR.out.below HR.out.lt hb2)
    clear z0 z1 HB HNt HR hb2
    have HB := HBn
    have HNt := HNn
    have HR := HRn
    clear HBn HNn HRn
    have z0 := HNt.out.cell 0 _ rfl
    have z1 := HNt.out.cell 1 _ rfl
    have q0 := HR.out.frozen 0
    have q1 := HR.out.frozen 1
    have q2 := HR.out.cell 0 _ rfl
    have q3 := HR.out.cell 1 _ rfl
    go_wp2
    have kk := HR.out.set2 (.slice none 0 0) (.slice none 0 0)
    have k0 := kk.cell 0 _ rfl
    have k1 := kk.cell 1 _ rfl
    have HE := Lib.hid ((HB.out.setCell (p := ⟨w.heap.size + 1, 0, none⟩) (by simp) (.slice none 0 0)).setCell (p := ⟨w.heap.size + 1, 1, none⟩) (by simp) (.slice none 0 0))
    clear kk
    exact bodyPost_ret (v := .tuple #[.agg #[.slice none 0 0, .slice none 0 0], .int .i64 101]) (by simp [results, Tryz.results41, go_sem, k0, k1]) rfl ⟨HE.out, _, _, _, _, _, _, rfl, net_nil _⟩
  | false =>
    rw [hq, Bool.false_or] at hp
    rw [hq] at HP1
    rw [hp] at HP2
    clear h hs hc hab hp hq
    go_enter Tryz.func41, Tryz.ntmps41
    go_wp2_with fail
    refine HK.out.mono ?_
    rintro e w1 ⟨rfl, hb1⟩
    have HB := Lib.hid (hb0.trans (hb1.mono hb0.size))
    have HNt := Lib.hid (y0.below y0.lt hb1)
    have HR := Lib.hid (y1.below y1.lt hb1)
    have z0 := HNt.out.cell 0 _ rfl
    have z1 := HNt.out.cell 1 _ rfl
    clear hb0 hb1 y0 y1 HK
    go_wp2_with fail
    refine (HP1.out _ HB.out).mono ?_
    rintro e w2 ⟨rfl, hb2⟩
    have HBn := Lib.hid (HB.out.trans (hb2.mono HB.out.size))
    have HNn := Lib.hid (HNt.out.below HNt.out.lt hb2)
    have HRn := Lib.hid (HR.out.below HR.out.lt hb2)
    clear z0 z1 HB HNt HR hb2
    have HB := HBn
    have HNt := HNn
    have HR := HRn
    clear HBn HNn HRn
    have z0 := HNt.out.cell 0 _ rfl
    have z1 := HNt.out.cell 1 _ rfl
    go_wp2_with fail
    refine (HP2.out _ HB.out).mono ?_
    rintro e w3 ⟨rfl, hb3⟩
    have HBn := Lib.hid (HB.out.trans (hb3.mono HB.out.size))
    have HNn := Lib.hid (HNt.out.below HNt.out.lt hb3)
    have HRn := Lib.hid (HR.out.below HR.out.lt hb3)
    clear z0 z1 HB HNt HR hb3
    have HB := HBn
    have HNt := HNn
    have HR := HRn
    clear HBn HNn HRn
    have z0 := HNt.out.cell 0 _ rfl
    have z1 := HNt.out.cell 1 _ rfl
    have q0 := HR.out.frozen 0
    have q1 := HR.out.frozen 1
    have q2 := HR.out.cell 0 _ rfl
    have q3 := HR.out.cell 1 _ rfl
    go_wp2
    have kk := HR.out.set2 (.slice none 0 0) (.slice none 0 0)
    have k0 := kk.cell 0 _ rfl
    have k1 := kk.cell 1 _ rfl
    have HE := Lib.hid ((HB.out.setCell (p := ⟨w.heap.size + 1, 0, none⟩) (by simp) (.slice none 0 0)).setCell (p := ⟨w.heap.size + 1, 1, none⟩) (by simp) (.slice none 0 0))
    clear kk
    exact bodyPost_ret (v := .tuple #[.agg #[.slice none 0 0, .slice none 0 0], .int .i64 101]) (by simp [results, Tryz.results41, go_sem, k0, k1]) rfl ⟨HE.out, _, _, _, _, _, _, rfl, net_nil _⟩
set_option maxRecDepth 100000 in
set_option maxHeartbeats 8000000 in
theorem rmerge_good (A : Option Addr) (c : Nat) (F : Option Addr) (d : Nat) (ps : List ByteArray) (fs : List Fa) (a b : ByteArray) (w : World) (h : NetC w A ps.length c F fs.length d ps fs) (hs : Short ps) (hc : namedF ps fs [a, b] = 0) (hab : a ≠ b) (hp : ps.length ≤ 24) (hfew : fs.length ≤ 48) (hp1 : parB fs a b = false) (hp2 : parB fs b a = false) :
    Calls Tryz.prog 41 #[.agg #[.slice A ps.length c, .slice F fs.length d], .string a, .string b] w (MergeP (mergeP b ps, rmergeF a b fs, 0) w) := by
  have hb0 := (below_alloc' w (.cells #[.slice A ps.length c, .slice F fs.length d] 25)).alloc (by simp) (.cells #[.slice none 0 0, .slice none 0 0] 25)
  have y0 := (Cel.new w 25 #[.slice A ps.length c, .slice F fs.length d]).alloc (.cells #[.slice none 0 0, .slice none 0 0] 25)
  have y1 := Cel.new (w.alloc (.cells #[.slice A ps.length c, .slice F fs.length d] 25)) 25 #[.slice none 0 0, .slice none 0 0]
  simp only [World.size_alloc] at y1
  have HK := Lib.hid (asked_any A ps.length c F fs.length d ps fs a b _ (h.below hb0) hs)
  rw [hc] at HK
  have heq : (a.toList == b.toList) = false := by rw [beqL]; exact decide_eq_false hab
  have HP1 := Lib.hid (fun w' (hw : Below w.heap.size w w') => parent_any A ps.length c F fs.length d ps fs a b w' (h.below hw))
  have HP2 := Lib.hid (fun w' (hw : Below w.heap.size w w') => parent_any A ps.length c F fs.length d ps fs b a w' (h.below hw))
  rw [hp1] at HP1
  rw [hp2] at HP2
  have HPc := Lib.hid (fun q => h.person q)
  have HFc := Lib.hid (fun q => h.fact q)
  have HP := Lib.hid hp
  have HFw := Lib.hid hfew
  clear h hs hc hab hp1 hp2
  go_enter Tryz.func41, Tryz.ntmps41
  go_wp2_with fail
  refine HK.out.mono ?_
  rintro e w1 ⟨rfl, hb1⟩
  have HB := Lib.hid (hb0.trans (hb1.mono hb0.size))
  have HNt := Lib.hid (y0.below y0.lt hb1)
  have HR := Lib.hid (y1.below y1.lt hb1)
  have z0 := HNt.out.cell 0 _ rfl
  have z1 := HNt.out.cell 1 _ rfl
  clear hb0 hb1 y0 y1 HK
  go_wp2_with fail
  refine (HP1.out _ HB.out).mono ?_
  rintro e w2 ⟨rfl, hb2⟩
  have HBn := Lib.hid (HB.out.trans (hb2.mono HB.out.size))
  have HNn := Lib.hid (HNt.out.below HNt.out.lt hb2)
  have HRn := Lib.hid (HR.out.below HR.out.lt hb2)
  clear z0 z1 HB HNt HR hb2
  have HB := HBn
  have HNt := HNn
  have HR := HRn
  clear HBn HNn HRn
  have z0 := HNt.out.cell 0 _ rfl
  have z1 := HNt.out.cell 1 _ rfl
  go_wp2_with fail
  refine (HP2.out _ HB.out).mono ?_
  rintro e w3 ⟨rfl, hb3⟩
  have HBn := Lib.hid (HB.out.trans (hb3.mono HB.out.size))
  have HNn := Lib.hid (HNt.out.below HNt.out.lt hb3)
  have HRn := Lib.hid (HR.out.below HR.out.lt hb3)
  clear z0 z1 HB HNt HR hb3
  have HB := HBn
  have HNt := HNn
  have HR := HRn
  clear HBn HNn HRn
  have z0 := HNt.out.cell 0 _ rfl
  have z1 := HNt.out.cell 1 _ rfl
  have HBl := Lib.hid (show w.heap.size + 1 < w3.heap.size from HR.out.lt)
  have HT := Lib.hid (show TwoS w (w3.alloc (.cells #[.slice none 0 0, .slice none 0 0] 25)) (w3.heap.size + 1) w3.heap.size 25 9 1 76 4 (.slice none 0 0) (.slice none 0 0) 0 0 [] [] from ⟨Cel.new w3 25 #[.slice none 0 0, .slice none 0 0], World.ownsRow_nil _ _ _ _, World.ownsRow_nil _ _ _ _, (fun g e => by cases e), by omega, HB.out.alloc HB.out.size _⟩)
  have HN1 := Lib.hid (HNt.out.alloc (.cells #[.slice none 0 0, .slice none 0 0] 25))
  have HR1 := Lib.hid (HR.out.alloc (.cells #[.slice none 0 0, .slice none 0 0] 25))
  clear z0 z1
  have z0 := HN1.out.cell 0 _ rfl
  have z1 := HN1.out.cell 1 _ rfl
  clear HB HNt HR
  go_wp2
  clear z0 z1 heq
  go_loopw [10] (fun ti wr => ∃ (k : Nat) (va : Value), ti = .int .i64 k ∧ k ≤ ps.length ∧ Hid (TwoS w wr (w3.heap.size + 1) w3.heap.size 25 9 1 76 4 va (.slice none 0 0) (mergeP b (ps.take k)).length 0 (namesV (mergeP b (ps.take k))) []) ∧ Hid (Cel wr w.heap.size 25 #[.slice A ps.length c, .slice F fs.length d]) ∧ Hid (Cel wr (w.heap.size + 1) 25 #[.slice none 0 0, .slice none 0 0]) ∧ Hid (w3.heap.size + 1 ≤ wr.heap.size)) (fun ti _ => ps.length - (intOf ti).toNat)
  case atStart => exact ⟨0, _, rfl, by omega, HT.out, HN1.out, HR1.out, Lib.hid (by simp)⟩
  case round =>
    clear HT HN1 HR1
    obtain ⟨k, va, rfl, hk, HT, HN1, HR1, HSz⟩ := hrel
    by_cases hlt : k < ps.length
    · have hki : (k : Int) < (ps.length : Int) := by omega
      have hk0 : (0 : Int) ≤ (k : Int) := by omega
      obtain ⟨b0, o0, rfl, _, hce⟩ := HPc.out (by omega)
      have hget : ps[k]? = some ps[k] := List.getElem?_eq_getElem hlt
      have c1 := below_cell HT.out.below (hce k _ hget)
      have HD := Lib.hid (hce k _ hget)
      have HM := Lib.hid (mergeP_succ (b := b) hget)
      have HLen := Lib.hid (mergeP_len b ps k)
      have z0 := HN1.out.cell 0 _ rfl
      clear hce hget
      generalize ps[k] = s at *
      by_cases hq : s = b
      · have HM2 := Lib.hid (HM.out.trans (by rw [if_pos hq, List.append_nil]))
        have hqe : (s.toList == b.toList) = true := by rw [hq]; simp
        clear hq HM
        go_wp2
        go_roundw
        case rel => exact ⟨k + 1, va, by go_num, by omega, by rw [HM2.out]; exact HT.out, HN1.out, HR1.out, HSz.out⟩
        case measure => simp [intOf]; omega
      · have HM2 := Lib.hid (HM.out.trans (by rw [if_neg hq]))
        have hqe : (s.toList == b.toList) = false := by rw [beqL]; exact decide_eq_false hq
        obtain ⟨Aa, ca, rfl, _⟩ := own_shape HT.out.a
        clear hq HM
        go_upto_region 13 with fail
        have HS0 := Lib.hid (fun (w' : World) (hY : Cel w' w.heap.size 25 #[.slice (some ⟨b0, o0, none⟩) ps.length c, .slice F fs.length d]) (hb : Below w.heap.size w w') => (⟨hY, below_cell hb HD.out⟩ : Cel w' w.heap.size 25 #[.slice (some ⟨b0, o0, none⟩) ps.length c, .slice F fs.length d] ∧ w'.cell? ⟨b0, o0 + k, none⟩ = some (.string s)))
        have HS1 := HS0.out wr.drew HN1.out (below_drew HT.out.below)
        refine wp_region_held_drew (S := fun w' => Cel w' w.heap.size 25 #[.slice (some ⟨b0, o0, none⟩) ps.length c, .slice F fs.length d] ∧ w'.cell? ⟨b0, o0 + k, none⟩ = some (.string s)) (by kernel_rfl) HS1 (fun hHeld => ?_)
        clear HS1
        have HT2 := Lib.hid (show TwoS w wr.drew (w3.heap.size + 1) w3.heap.size 25 9 1 76 4 (.slice Aa (mergeP b (ps.take k)).length ca) (.slice none 0 0) (mergeP b (ps.take k)).length 0 (namesV (mergeP b (ps.take k))) [] from HT.out.grow (below_drew (Below.refl _ _)))
        have HY2 : Hid (Cel wr.drew w.heap.size 25 #[.slice (some ⟨b0, o0, none⟩) ps.length c, .slice F fs.length d]) := HN1
        have HR2 : Hid (Cel wr.drew (w.heap.size + 1) 25 #[.slice none 0 0, .slice none 0 0]) := HR1
        have HSz2 : Hid (w3.heap.size + 1 ≤ wr.drew.heap.size) := HSz
        clear HT HN1 HR1 HSz c1 z0
        generalize wr.drew = V at *
        refine wpAnyH_takeD (i := 0) (v := ?_) 50 rfl (by kernel_rfl) (by kernel_rfl) (by kernel_rfl) (fun _ _ _ h => h) (Or.inl ⟨by rfl, ?_⟩) (by assumption) rfl ?_
        rotate_left
        · intro w' hSw
          have z0 := hSw.1.cell 0 _ rfl; have c1 := hSw.2
          go_simp <;> with_reducible rfl
        simp only [List.setIfInBounds_toArray, List.set_cons_succ, List.set_cons_zero]
        refine wpAnyH_takeD (i := 2) (v := ?_) 52 rfl (by kernel_rfl) (by kernel_rfl) (by kernel_rfl) (fun _ _ _ h => h) (Or.inl ⟨by rfl, ?_⟩) (by assumption) rfl ?_
        rotate_left
        · intro w' hSw
          have z0 := hSw.1.cell 0 _ rfl; have c1 := hSw.2
          go_simp <;> with_reducible rfl
        simp only [List.setIfInBounds_toArray, List.set_cons_succ, List.set_cons_zero]
        refine wpAnyH_takeD (i := 3) (v := ?_) 53 rfl (by kernel_rfl) (by kernel_rfl) (by kernel_rfl) (fun _ _ _ h => h) (Or.inl ⟨by rfl, ?_⟩) (by assumption) rfl ?_
        rotate_left
        · intro w' hSw
          have z0 := hSw.1.cell 0 _ rfl; have c1 := hSw.2
          go_simp <;> with_reducible rfl
        simp only [List.setIfInBounds_toArray, List.set_cons_succ, List.set_cons_zero]
        refine wpAnyH_takeD (i := 4) (v := ?_) 54 rfl (by kernel_rfl) (by kernel_rfl) (by kernel_rfl) (fun _ _ _ h => h) (Or.inl ⟨by rfl, ?_⟩) (by assumption) rfl ?_
        rotate_left
        · intro w' hSw
          have z0 := hSw.1.cell 0 _ rfl; have c1 := hSw.2
          go_simp <;> with_reducible rfl
        simp only [List.setIfInBounds_toArray, List.set_cons_succ, List.set_cons_zero]
        refine wpAnyH_takeD (i := 5) (v := ?_) 55 rfl (by kernel_rfl) (by kernel_rfl) (by kernel_rfl) (fun _ _ _ h => h) (Or.inl ⟨by rfl, ?_⟩) (by assumption) rfl ?_
        rotate_left
        · intro w' hSw
          have z0 := hSw.1.cell 0 _ rfl; have c1 := hSw.2
          go_simp <;> with_reducible rfl
        simp only [List.setIfInBounds_toArray, List.set_cons_succ, List.set_cons_zero]
        refine wpAnyH_takeD (i := 6) (v := ?_) 56 rfl (by kernel_rfl) (by kernel_rfl) (by kernel_rfl) (fun _ _ _ h => h) (Or.inl ⟨by rfl, ?_⟩) (by assumption) rfl ?_
        rotate_left
        · intro w' hSw
          have z0 := hSw.1.cell 0 _ rfl; have c1 := hSw.2
          go_simp <;> with_reducible rfl
        simp only [List.setIfInBounds_toArray, List.set_cons_succ, List.set_cons_zero]
        refine wpAnyH_ready (rs := [1, 7]) (by kernel_rfl) (by simp) ?_
        refine AllReadyH.cons (o := _) rfl (fun K hK => ?_) (AllReadyH.cons (o := _) rfl (fun K hK => ?_) AllReadyH.nil)
        · have o1 := HT2.out.cel.cell 0 _ rfl
          go_simp
          refine hK.out _ _ (HS0.out _ HY2.out HT2.out.below) (fun hHeld2 => ?_)
          clear hK K o1
          refine wpAnyH_ready (rs := [7]) (by kernel_rfl) (by simp) ?_
          refine AllReadyH.cons (o := _) rfl (fun K hK => ?_) AllReadyH.nil
          go_simp
          refine hK.out _ _ (HS0.out _ (HY2.out.alloc _) (HT2.out.below.alloc HT2.out.below.size _)) (fun hHeld3 => ?_)
          clear hK K
          refine wpAnyH_ready (rs := [8]) (by kernel_rfl) (by simp) ?_
          refine AllReadyH.cons (o := _) rfl (fun K hK => ?_) AllReadyH.nil
          have HSx := Lib.hid (Sl.new (s := 1) V 9 1 1 #[.string s] rfl (Nat.le_refl _) (by decide))
          refine stepStr (.tmp 51) (.tmp 57) rfl rfl (by rfl) (by rfl) (HT2.out.alloc (.cells #[.string s] 9)).a HSx.out (by simp [Value.oneCell']) (N := (mergeP b (ps.take k)).length + 1) (by simp) (by have := HLen.out; have := HP.out; omega) (by have := HSz2.out; simp; omega) ?_
          intro A5 c5 w5 hap
          have HBn := Lib.hid (below_of_own hap.grown (HT2.out.alloc (.cells #[.string s] 9)).a (HT2.out.alloc (.cells #[.string s] 9)).below (by have := HBl.out; omega))
          have HYn := Lib.hid ((HY2.out.alloc (.cells #[.string s] 9)).kept hap.grown (fun e => by have := own_ge HT2.out.a e.symm; have := HBl.out; omega))
          have HOn := Lib.hid ((HT2.out.alloc (.cells #[.string s] 9)).midA hap)
          have HTn := Lib.hid ((HT2.out.alloc (.cells #[.string s] 9)).putA (by have := HBl.out; omega) hap)
          have HRn := Lib.hid ((HT2.out.alloc (.cells #[.string s] 9)).farA hap (HR2.out.alloc (.cells #[.string s] 9)) (by have := HBl.out; omega) (.slice A5 ((mergeP b (ps.take k)).length + 1) c5) 0)
          have HYf := Lib.hid ((HT2.out.alloc (.cells #[.string s] 9)).farA hap (HY2.out.alloc (.cells #[.string s] 9)) (by have := HBl.out; omega) (.slice A5 ((mergeP b (ps.take k)).length + 1) c5) 0)
          have HSn := Lib.hid (show w3.heap.size + 1 ≤ (w5.setCell ⟨w3.heap.size, 0, none⟩ (.slice A5 ((mergeP b (ps.take k)).length + 1) c5)).heap.size by have := HSz2.out; have := hap.grown.size; simp at this ⊢; omega)
          clear hap
          go_simp
          refine hK.out _ _ (HS0.out _ HYn.out HBn.out) (fun hHeld4 => ?_)
          clear hK K
          refine wpAnyH_takeD (i := 9) (v := ?_) 59 rfl (by kernel_rfl) (by kernel_rfl) (by kernel_rfl) (fun _ _ _ h => h) (Or.inl ⟨by rfl, ?_⟩) (by assumption) rfl ?_
          rotate_left
          · intro w' hSw
            go_simp <;> with_reducible rfl
          simp only [List.setIfInBounds_toArray, List.set_cons_succ, List.set_cons_zero]
          have f1 := HOn.out.frozen 0
          have o1 := HOn.out.cell 0 _ rfl
          refine wpAnyH_ready (rs := [10]) (by kernel_rfl) (by simp) ?_
          refine AllReadyH.cons (o := _) rfl (fun K hK => ?_) AllReadyH.nil
          go_simp
          refine hK.out _ _ (HS0.out _ HYf.out HTn.out.below) (fun hHeld5 => ?_)
          clear hK K
          refine wpAnyH_done (by kernel_rfl) ?_ _
          go_wp2
          go_roundw
          case rel => exact ⟨k + 1, .slice A5 ((mergeP b (ps.take k)).length + 1) c5, by go_num, by omega, by rw [HM2.out, namesV_append, List.length_append]; exact HTn.out, HYf.out, HRn.out, HSn.out⟩
          case measure => simp [intOf]; omega
        · go_simp
          refine hK.out _ _ (HS0.out _ (HY2.out.alloc _) (HT2.out.below.alloc HT2.out.below.size _)) (fun hHeld3 => ?_)
          clear hK K
          have o1 := (HT2.out.alloc (.cells #[.string s] 9)).cel.cell 0 _ rfl
          refine wpAnyH_ready (rs := [1]) (by kernel_rfl) (by simp) ?_
          refine AllReadyH.cons (o := _) rfl (fun K hK => ?_) AllReadyH.nil
          go_simp
          refine hK.out _ _ (HS0.out _ (HY2.out.alloc _) (HT2.out.below.alloc HT2.out.below.size _)) (fun hHeld2 => ?_)
          clear o1
          clear hK K
          refine wpAnyH_ready (rs := [8]) (by kernel_rfl) (by simp) ?_
          refine AllReadyH.cons (o := _) rfl (fun K hK => ?_) AllReadyH.nil
          have HSx := Lib.hid (Sl.new (s := 1) V 9 1 1 #[.string s] rfl (Nat.le_refl _) (by decide))
          refine stepStr (.tmp 51) (.tmp 57) rfl rfl (by rfl) (by rfl) (HT2.out.alloc (.cells #[.string s] 9)).a HSx.out (by simp [Value.oneCell']) (N := (mergeP b (ps.take k)).length + 1) (by simp) (by have := HLen.out; have := HP.out; omega) (by have := HSz2.out; simp; omega) ?_
          intro A5 c5 w5 hap
          have HBn := Lib.hid (below_of_own hap.grown (HT2.out.alloc (.cells #[.string s] 9)).a (HT2.out.alloc (.cells #[.string s] 9)).below (by have := HBl.out; omega))
          have HYn := Lib.hid ((HY2.out.alloc (.cells #[.string s] 9)).kept hap.grown (fun e => by have := own_ge HT2.out.a e.symm; have := HBl.out; omega))
          have HOn := Lib.hid ((HT2.out.alloc (.cells #[.string s] 9)).midA hap)
          have HTn := Lib.hid ((HT2.out.alloc (.cells #[.string s] 9)).putA (by have := HBl.out; omega) hap)
          have HRn := Lib.hid ((HT2.out.alloc (.cells #[.string s] 9)).farA hap (HR2.out.alloc (.cells #[.string s] 9)) (by have := HBl.out; omega) (.slice A5 ((mergeP b (ps.take k)).length + 1) c5) 0)
          have HYf := Lib.hid ((HT2.out.alloc (.cells #[.string s] 9)).farA hap (HY2.out.alloc (.cells #[.string s] 9)) (by have := HBl.out; omega) (.slice A5 ((mergeP b (ps.take k)).length + 1) c5) 0)
          have HSn := Lib.hid (show w3.heap.size + 1 ≤ (w5.setCell ⟨w3.heap.size, 0, none⟩ (.slice A5 ((mergeP b (ps.take k)).length + 1) c5)).heap.size by have := HSz2.out; have := hap.grown.size; simp at this ⊢; omega)
          clear hap
          go_simp
          refine hK.out _ _ (HS0.out _ HYn.out HBn.out) (fun hHeld4 => ?_)
          clear hK K
          refine wpAnyH_takeD (i := 9) (v := ?_) 59 rfl (by kernel_rfl) (by kernel_rfl) (by kernel_rfl) (fun _ _ _ h => h) (Or.inl ⟨by rfl, ?_⟩) (by assumption) rfl ?_
          rotate_left
          · intro w' hSw
            go_simp <;> with_reducible rfl
          simp only [List.setIfInBounds_toArray, List.set_cons_succ, List.set_cons_zero]
          have f1 := HOn.out.frozen 0
          have o1 := HOn.out.cell 0 _ rfl
          refine wpAnyH_ready (rs := [10]) (by kernel_rfl) (by simp) ?_
          refine AllReadyH.cons (o := _) rfl (fun K hK => ?_) AllReadyH.nil
          go_simp
          refine hK.out _ _ (HS0.out _ HYf.out HTn.out.below) (fun hHeld5 => ?_)
          clear hK K
          refine wpAnyH_done (by kernel_rfl) ?_ _
          go_wp2
          go_roundw
          case rel => exact ⟨k + 1, .slice A5 ((mergeP b (ps.take k)).length + 1) c5, by go_num, by omega, by rw [HM2.out, namesV_append, List.length_append]; exact HTn.out, HYf.out, HRn.out, HSn.out⟩
          case measure => simp [intOf]; omega
    · have HK := Lib.hid (show ps.take k = ps from List.take_of_length_le (by omega))
      rw [HK.out] at HT
      obtain ⟨Aa, ca, rfl, _⟩ := own_shape HT.out.a
      have z0 := HN1.out.cell 0 _ rfl
      have z1 := HN1.out.cell 1 _ rfl
      clear HK
      go_wp2
      clear z0 z1 hlt hk
      obtain ⟨wo, hwo⟩ : ∃ wo, wo = wr := ⟨_, rfl⟩
      rw [← hwo] at HT HN1 HR1 HSz ⊢
      clear hwo
      go_loopw [11] (fun ti wr => ∃ (j : Nat) (vb : Value), ti = .int .i64 j ∧ j ≤ fs.length ∧ Hid (TwoS w wr (w3.heap.size + 1) w3.heap.size 25 9 1 76 4 (.slice Aa (mergeP b ps).length ca) vb (mergeP b ps).length (rmergeF a b (fs.take j)).length (namesV (mergeP b ps)) (fasV (rmergeF a b (fs.take j)))) ∧ Hid (Cel wr w.heap.size 25 #[.slice A ps.length c, .slice F fs.length d]) ∧ Hid (Cel wr (w.heap.size + 1) 25 #[.slice none 0 0, .slice none 0 0]) ∧ Hid (w3.heap.size + 1 ≤ wr.heap.size)) (fun ti _ => fs.length - (intOf ti).toNat)
      case atStart => exact ⟨0, _, rfl, by omega, HT.out, HN1.out, HR1.out, HSz.out⟩
      case round =>
        clear HT HN1 HR1 HSz
        obtain ⟨j, vb, rfl, hj, HT, HN1, HR1, HSz⟩ := hrel
        obtain ⟨Ab, cb, rfl, _⟩ := own_shape HT.out.b
        have z1 := HN1.out.cell 1 _ rfl
        by_cases hlj : j < fs.length
        · have hji : (j : Int) < (fs.length : Int) := by omega
          have hj0 : (0 : Int) ≤ (j : Int) := by omega
          obtain ⟨b0, o0, rfl, _, hce⟩ := HFc.out (by omega)
          have hfj : fs[j]? = some fs[j] := List.getElem?_eq_getElem hlj
          obtain ⟨g1, g2, g3, g4⟩ := hce j _ hfj
          replace g1 := below_cell HT.out.below g1
          replace g2 := below_cell HT.out.below g2
          replace g3 := below_cell HT.out.below g3
          replace g4 := below_cell HT.out.below g4
          have HSn := Lib.hid (rmerge_snoc (a := a) (b := b) hfj)
          have HGl := Lib.hid (rmerge_len a b fs j)
          clear hce hfj
          generalize fs[j] = f at *
          obtain ⟨k, x, y, t⟩ := f
          simp only at g1 g2 g3 g4
          have HSx : Hid (rmergeF a b (fs.take (j + 1)) = rmergeF a b (fs.take j) ++ (if renS a b x = renS a b y then [] else [⟨k, renS a b x, renS a b y, t⟩])) := HSn
          clear HSn
          have HX := Lib.hid (Cel.new wr 76 #[.int .i64 k, .string x, .string y, .int .i64 t])
          have HWx := Lib.hid (below_alloc' wr (.cells #[.int .i64 k, .string x, .string y, .int .i64 t] 76))
          go_upto_region 18 with fail
          have x0 := HX.out.cell 0 _ rfl
          have x1 := HX.out.cell 1 _ rfl
          have x2 := HX.out.cell 2 _ rfl
          have x3 := HX.out.cell 3 _ rfl
          have p1 := HX.out.frozen 1
          have p2 := HX.out.frozen 2
          have pa := (HX.out.setAt 1 (.string a)).cell 2 (.string y) rfl
          have pb := (HX.out.setAt 1 (.string a)).frozen 2
          by_cases hx : x = b
          · have hxe : (x.toList == b.toList) = true := by rw [hx]; simp
            have HRx := Lib.hid (show renS a b x = a from if_pos hx)
            clear hx
            by_cases hy : y = b
            · have hye : (y.toList == b.toList) = true := by rw [hy]; simp
              have HRy := Lib.hid (show renS a b y = a from if_pos hy)
              clear hy
              go_upto_region 22 with fail
              have hX : Cel (wr.alloc (.cells #[.int .i64 k, .string a, .string a, .int .i64 t] 76)) wr.heap.size 76 #[.int .i64 k, .string (renS a b x), .string (renS a b y), .int .i64 t] := by
                rw [HRx.out, HRy.out]
                exact Cel.new wr 76 #[.int .i64 k, .string a, .string a, .int .i64 t]
              have hW : Below wr.heap.size wr (wr.alloc (.cells #[.int .i64 k, .string a, .string a, .int .i64 t] 76)) := below_alloc' wr (.cells #[.int .i64 k, .string a, .string a, .int .i64 t] 76)
              clear x0 x1 x2 x3 p1 p2 pa pb
              clear z1 g1 g2 g3 g4
              generalize (wr.alloc (.cells #[.int .i64 k, .string a, .string a, .int .i64 t] 76)) = Wc at hX hW ⊢
              have HX7 := Lib.hid hX
              have HW7 := Lib.hid hW
              have HT7 := Lib.hid (HT.out.grow hW)
              have HN7 := Lib.hid (HN1.out.below HN1.out.lt hW)
              have HR7 := Lib.hid (HR1.out.below HR1.out.lt hW)
              have HSz7 := Lib.hid (Nat.le_trans HSz.out hW.size)
              clear hX hW HX HWx HT HN1 HR1 HSz
              have x0 := HX7.out.cell 0 _ rfl
              have x1 := HX7.out.cell 1 _ rfl
              have x2 := HX7.out.cell 2 _ rfl
              have x3 := HX7.out.cell 3 _ rfl
              have z1 := HT7.out.cel.cell 1 _ rfl
              generalize renS a b x = rx at *
              generalize renS a b y = ry at *
              by_cases hxy : rx = ry
              · have hxe : (rx.toList == ry.toList) = true := by rw [hxy]; simp
                have HS2 := Lib.hid (HSx.out.trans (by rw [if_pos hxy, List.append_nil]))
                clear hxy HSx
                go_wp2
                go_roundw
                case rel => exact ⟨j + 1, .slice Ab (rmergeF a b (fs.take j)).length cb, by go_num, by omega, by rw [HS2.out]; exact HT7.out, HN7.out, HR7.out, HSz7.out⟩
                case measure => simp [intOf]; omega
              · have hxe : (rx.toList == ry.toList) = false := by rw [beqL]; exact decide_eq_false hxy
                have HS2 := Lib.hid (HSx.out.trans (by rw [if_neg hxy]))
                clear hxy HSx
                have HTa := Lib.hid (HT7.out.alloc (.cells #[.int .i64 k, .string rx, .string ry, .int .i64 t] 76))
                have HNa := Lib.hid (HN7.out.alloc (.cells #[.int .i64 k, .string rx, .string ry, .int .i64 t] 76))
                have HRa := Lib.hid (HR7.out.alloc (.cells #[.int .i64 k, .string rx, .string ry, .int .i64 t] 76))
                have HS1 := Lib.hid (Sl.new (s := 4) Wc 76 1 1 #[.int .i64 k, .string rx, .string ry, .int .i64 t] rfl (Nat.le_refl _) (by decide))
                have HRen := Lib.hid (fun (gs : List Fa) => show fasV (gs ++ [⟨k, rx, ry, t⟩]) = fasV gs ++ [.int .i64 k, .string rx, .string ry, .int .i64 t] by simp [fasV, faV])
                go_wp2_with (at_builtin; refine appFact _ _ rfl rfl rfl rfl HTa.out.b HS1.out (by simp [Value.oneCell']) (N := (rmergeF a b (fs.take j)).length + 1) (by simp; omega) (by have := HGl.out; have := HFw.out; omega) (by have := HSz7.out; simp; omega) ?_; intro A1 c1 w8 hap; have cy := HTa.out.midB hap; have q0 := cy.cell 1 _ rfl; have q1 := cy.frozen 1; have HT8 := Lib.hid (HTa.out.putB (by have := HBl.out; omega) hap); have HN8 := Lib.hid (HTa.out.farB hap HNa.out (by have := HBl.out; omega) (.slice A1 ((rmergeF a b (fs.take j)).length + 1) c1) 1); have HR8 := Lib.hid (HTa.out.farB hap HRa.out (by have := HBl.out; omega) (.slice A1 ((rmergeF a b (fs.take j)).length + 1) c1) 1); have hg := hap.grown.size; have HSz8 := Lib.hid (show w3.heap.size + 1 ≤ (w8.setCell ⟨w3.heap.size, 1, none⟩ (.slice A1 ((rmergeF a b (fs.take j)).length + 1) c1)).heap.size by have := HSz7.out; simp at hg ⊢; omega); clear hap cy hg)
                go_wp2
                go_roundw
                case rel => exact ⟨j + 1, _, by go_num, by omega, by rw [HS2.out, HRen.out, List.length_append]; exact HT8.out, HN8.out, HR8.out, HSz8.out⟩
                case measure => simp [intOf]; omega
            · have hye : (y.toList == b.toList) = false := by rw [beqL]; exact decide_eq_false hy
              have HRy := Lib.hid (show renS a b y = y from if_neg hy)
              clear hy
              go_upto_region 22 with fail
              have hX : Cel (wr.alloc (.cells #[.int .i64 k, .string a, .string y, .int .i64 t] 76)) wr.heap.size 76 #[.int .i64 k, .string (renS a b x), .string (renS a b y), .int .i64 t] := by
                rw [HRx.out, HRy.out]
                exact Cel.new wr 76 #[.int .i64 k, .string a, .string y, .int .i64 t]
              have hW : Below wr.heap.size wr (wr.alloc (.cells #[.int .i64 k, .string a, .string y, .int .i64 t] 76)) := below_alloc' wr (.cells #[.int .i64 k, .string a, .string y, .int .i64 t] 76)
              clear x0 x1 x2 x3 p1 p2 pa pb
              clear z1 g1 g2 g3 g4
              generalize (wr.alloc (.cells #[.int .i64 k, .string a, .string y, .int .i64 t] 76)) = Wc at hX hW ⊢
              have HX7 := Lib.hid hX
              have HW7 := Lib.hid hW
              have HT7 := Lib.hid (HT.out.grow hW)
              have HN7 := Lib.hid (HN1.out.below HN1.out.lt hW)
              have HR7 := Lib.hid (HR1.out.below HR1.out.lt hW)
              have HSz7 := Lib.hid (Nat.le_trans HSz.out hW.size)
              clear hX hW HX HWx HT HN1 HR1 HSz
              have x0 := HX7.out.cell 0 _ rfl
              have x1 := HX7.out.cell 1 _ rfl
              have x2 := HX7.out.cell 2 _ rfl
              have x3 := HX7.out.cell 3 _ rfl
              have z1 := HT7.out.cel.cell 1 _ rfl
              generalize renS a b x = rx at *
              generalize renS a b y = ry at *
              by_cases hxy : rx = ry
              · have hxe : (rx.toList == ry.toList) = true := by rw [hxy]; simp
                have HS2 := Lib.hid (HSx.out.trans (by rw [if_pos hxy, List.append_nil]))
                clear hxy HSx
                go_wp2
                go_roundw
                case rel => exact ⟨j + 1, .slice Ab (rmergeF a b (fs.take j)).length cb, by go_num, by omega, by rw [HS2.out]; exact HT7.out, HN7.out, HR7.out, HSz7.out⟩
                case measure => simp [intOf]; omega
              · have hxe : (rx.toList == ry.toList) = false := by rw [beqL]; exact decide_eq_false hxy
                have HS2 := Lib.hid (HSx.out.trans (by rw [if_neg hxy]))
                clear hxy HSx
                have HTa := Lib.hid (HT7.out.alloc (.cells #[.int .i64 k, .string rx, .string ry, .int .i64 t] 76))
                have HNa := Lib.hid (HN7.out.alloc (.cells #[.int .i64 k, .string rx, .string ry, .int .i64 t] 76))
                have HRa := Lib.hid (HR7.out.alloc (.cells #[.int .i64 k, .string rx, .string ry, .int .i64 t] 76))
                have HS1 := Lib.hid (Sl.new (s := 4) Wc 76 1 1 #[.int .i64 k, .string rx, .string ry, .int .i64 t] rfl (Nat.le_refl _) (by decide))
                have HRen := Lib.hid (fun (gs : List Fa) => show fasV (gs ++ [⟨k, rx, ry, t⟩]) = fasV gs ++ [.int .i64 k, .string rx, .string ry, .int .i64 t] by simp [fasV, faV])
                go_wp2_with (at_builtin; refine appFact _ _ rfl rfl rfl rfl HTa.out.b HS1.out (by simp [Value.oneCell']) (N := (rmergeF a b (fs.take j)).length + 1) (by simp; omega) (by have := HGl.out; have := HFw.out; omega) (by have := HSz7.out; simp; omega) ?_; intro A1 c1 w8 hap; have cy := HTa.out.midB hap; have q0 := cy.cell 1 _ rfl; have q1 := cy.frozen 1; have HT8 := Lib.hid (HTa.out.putB (by have := HBl.out; omega) hap); have HN8 := Lib.hid (HTa.out.farB hap HNa.out (by have := HBl.out; omega) (.slice A1 ((rmergeF a b (fs.take j)).length + 1) c1) 1); have HR8 := Lib.hid (HTa.out.farB hap HRa.out (by have := HBl.out; omega) (.slice A1 ((rmergeF a b (fs.take j)).length + 1) c1) 1); have hg := hap.grown.size; have HSz8 := Lib.hid (show w3.heap.size + 1 ≤ (w8.setCell ⟨w3.heap.size, 1, none⟩ (.slice A1 ((rmergeF a b (fs.take j)).length + 1) c1)).heap.size by have := HSz7.out; simp at hg ⊢; omega); clear hap cy hg)
                go_wp2
                go_roundw
                case rel => exact ⟨j + 1, _, by go_num, by omega, by rw [HS2.out, HRen.out, List.length_append]; exact HT8.out, HN8.out, HR8.out, HSz8.out⟩
                case measure => simp [intOf]; omega
          · have hxe : (x.toList == b.toList) = false := by rw [beqL]; exact decide_eq_false hx
            have HRx := Lib.hid (show renS a b x = x from if_neg hx)
            clear hx
            by_cases hy : y = b
            · have hye : (y.toList == b.toList) = true := by rw [hy]; simp
              have HRy := Lib.hid (show renS a b y = a from if_pos hy)
              clear hy
              go_upto_region 22 with fail
              have hX : Cel (wr.alloc (.cells #[.int .i64 k, .string x, .string a, .int .i64 t] 76)) wr.heap.size 76 #[.int .i64 k, .string (renS a b x), .string (renS a b y), .int .i64 t] := by
                rw [HRx.out, HRy.out]
                exact Cel.new wr 76 #[.int .i64 k, .string x, .string a, .int .i64 t]
              have hW : Below wr.heap.size wr (wr.alloc (.cells #[.int .i64 k, .string x, .string a, .int .i64 t] 76)) := below_alloc' wr (.cells #[.int .i64 k, .string x, .string a, .int .i64 t] 76)
              clear x0 x1 x2 x3 p1 p2 pa pb
              clear z1 g1 g2 g3 g4
              generalize (wr.alloc (.cells #[.int .i64 k, .string x, .string a, .int .i64 t] 76)) = Wc at hX hW ⊢
              have HX7 := Lib.hid hX
              have HW7 := Lib.hid hW
              have HT7 := Lib.hid (HT.out.grow hW)
              have HN7 := Lib.hid (HN1.out.below HN1.out.lt hW)
              have HR7 := Lib.hid (HR1.out.below HR1.out.lt hW)
              have HSz7 := Lib.hid (Nat.le_trans HSz.out hW.size)
              clear hX hW HX HWx HT HN1 HR1 HSz
              have x0 := HX7.out.cell 0 _ rfl
              have x1 := HX7.out.cell 1 _ rfl
              have x2 := HX7.out.cell 2 _ rfl
              have x3 := HX7.out.cell 3 _ rfl
              have z1 := HT7.out.cel.cell 1 _ rfl
              generalize renS a b x = rx at *
              generalize renS a b y = ry at *
              by_cases hxy : rx = ry
              · have hxe : (rx.toList == ry.toList) = true := by rw [hxy]; simp
                have HS2 := Lib.hid (HSx.out.trans (by rw [if_pos hxy, List.append_nil]))
                clear hxy HSx
                go_wp2
                go_roundw
                case rel => exact ⟨j + 1, .slice Ab (rmergeF a b (fs.take j)).length cb, by go_num, by omega, by rw [HS2.out]; exact HT7.out, HN7.out, HR7.out, HSz7.out⟩
                case measure => simp [intOf]; omega
              · have hxe : (rx.toList == ry.toList) = false := by rw [beqL]; exact decide_eq_false hxy
                have HS2 := Lib.hid (HSx.out.trans (by rw [if_neg hxy]))
                clear hxy HSx
                have HTa := Lib.hid (HT7.out.alloc (.cells #[.int .i64 k, .string rx, .string ry, .int .i64 t] 76))
                have HNa := Lib.hid (HN7.out.alloc (.cells #[.int .i64 k, .string rx, .string ry, .int .i64 t] 76))
                have HRa := Lib.hid (HR7.out.alloc (.cells #[.int .i64 k, .string rx, .string ry, .int .i64 t] 76))
                have HS1 := Lib.hid (Sl.new (s := 4) Wc 76 1 1 #[.int .i64 k, .string rx, .string ry, .int .i64 t] rfl (Nat.le_refl _) (by decide))
                have HRen := Lib.hid (fun (gs : List Fa) => show fasV (gs ++ [⟨k, rx, ry, t⟩]) = fasV gs ++ [.int .i64 k, .string rx, .string ry, .int .i64 t] by simp [fasV, faV])
                go_wp2_with (at_builtin; refine appFact _ _ rfl rfl rfl rfl HTa.out.b HS1.out (by simp [Value.oneCell']) (N := (rmergeF a b (fs.take j)).length + 1) (by simp; omega) (by have := HGl.out; have := HFw.out; omega) (by have := HSz7.out; simp; omega) ?_; intro A1 c1 w8 hap; have cy := HTa.out.midB hap; have q0 := cy.cell 1 _ rfl; have q1 := cy.frozen 1; have HT8 := Lib.hid (HTa.out.putB (by have := HBl.out; omega) hap); have HN8 := Lib.hid (HTa.out.farB hap HNa.out (by have := HBl.out; omega) (.slice A1 ((rmergeF a b (fs.take j)).length + 1) c1) 1); have HR8 := Lib.hid (HTa.out.farB hap HRa.out (by have := HBl.out; omega) (.slice A1 ((rmergeF a b (fs.take j)).length + 1) c1) 1); have hg := hap.grown.size; have HSz8 := Lib.hid (show w3.heap.size + 1 ≤ (w8.setCell ⟨w3.heap.size, 1, none⟩ (.slice A1 ((rmergeF a b (fs.take j)).length + 1) c1)).heap.size by have := HSz7.out; simp at hg ⊢; omega); clear hap cy hg)
                go_wp2
                go_roundw
                case rel => exact ⟨j + 1, _, by go_num, by omega, by rw [HS2.out, HRen.out, List.length_append]; exact HT8.out, HN8.out, HR8.out, HSz8.out⟩
                case measure => simp [intOf]; omega
            · have hye : (y.toList == b.toList) = false := by rw [beqL]; exact decide_eq_false hy
              have HRy := Lib.hid (show renS a b y = y from if_neg hy)
              clear hy
              go_upto_region 22 with fail
              have hX : Cel (wr.alloc (.cells #[.int .i64 k, .string x, .string y, .int .i64 t] 76)) wr.heap.size 76 #[.int .i64 k, .string (renS a b x), .string (renS a b y), .int .i64 t] := by
                rw [HRx.out, HRy.out]
                exact Cel.new wr 76 #[.int .i64 k, .string x, .string y, .int .i64 t]
              have hW : Below wr.heap.size wr (wr.alloc (.cells #[.int .i64 k, .string x, .string y, .int .i64 t] 76)) := below_alloc' wr (.cells #[.int .i64 k, .string x, .string y, .int .i64 t] 76)
              clear x0 x1 x2 x3 p1 p2 pa pb
              clear z1 g1 g2 g3 g4
              generalize (wr.alloc (.cells #[.int .i64 k, .string x, .string y, .int .i64 t] 76)) = Wc at hX hW ⊢
              have HX7 := Lib.hid hX
              have HW7 := Lib.hid hW
              have HT7 := Lib.hid (HT.out.grow hW)
              have HN7 := Lib.hid (HN1.out.below HN1.out.lt hW)
              have HR7 := Lib.hid (HR1.out.below HR1.out.lt hW)
              have HSz7 := Lib.hid (Nat.le_trans HSz.out hW.size)
              clear hX hW HX HWx HT HN1 HR1 HSz
              have x0 := HX7.out.cell 0 _ rfl
              have x1 := HX7.out.cell 1 _ rfl
              have x2 := HX7.out.cell 2 _ rfl
              have x3 := HX7.out.cell 3 _ rfl
              have z1 := HT7.out.cel.cell 1 _ rfl
              generalize renS a b x = rx at *
              generalize renS a b y = ry at *
              by_cases hxy : rx = ry
              · have hxe : (rx.toList == ry.toList) = true := by rw [hxy]; simp
                have HS2 := Lib.hid (HSx.out.trans (by rw [if_pos hxy, List.append_nil]))
                clear hxy HSx
                go_wp2
                go_roundw
                case rel => exact ⟨j + 1, .slice Ab (rmergeF a b (fs.take j)).length cb, by go_num, by omega, by rw [HS2.out]; exact HT7.out, HN7.out, HR7.out, HSz7.out⟩
                case measure => simp [intOf]; omega
              · have hxe : (rx.toList == ry.toList) = false := by rw [beqL]; exact decide_eq_false hxy
                have HS2 := Lib.hid (HSx.out.trans (by rw [if_neg hxy]))
                clear hxy HSx
                have HTa := Lib.hid (HT7.out.alloc (.cells #[.int .i64 k, .string rx, .string ry, .int .i64 t] 76))
                have HNa := Lib.hid (HN7.out.alloc (.cells #[.int .i64 k, .string rx, .string ry, .int .i64 t] 76))
                have HRa := Lib.hid (HR7.out.alloc (.cells #[.int .i64 k, .string rx, .string ry, .int .i64 t] 76))
                have HS1 := Lib.hid (Sl.new (s := 4) Wc 76 1 1 #[.int .i64 k, .string rx, .string ry, .int .i64 t] rfl (Nat.le_refl _) (by decide))
                have HRen := Lib.hid (fun (gs : List Fa) => show fasV (gs ++ [⟨k, rx, ry, t⟩]) = fasV gs ++ [.int .i64 k, .string rx, .string ry, .int .i64 t] by simp [fasV, faV])
                go_wp2_with (at_builtin; refine appFact _ _ rfl rfl rfl rfl HTa.out.b HS1.out (by simp [Value.oneCell']) (N := (rmergeF a b (fs.take j)).length + 1) (by simp; omega) (by have := HGl.out; have := HFw.out; omega) (by have := HSz7.out; simp; omega) ?_; intro A1 c1 w8 hap; have cy := HTa.out.midB hap; have q0 := cy.cell 1 _ rfl; have q1 := cy.frozen 1; have HT8 := Lib.hid (HTa.out.putB (by have := HBl.out; omega) hap); have HN8 := Lib.hid (HTa.out.farB hap HNa.out (by have := HBl.out; omega) (.slice A1 ((rmergeF a b (fs.take j)).length + 1) c1) 1); have HR8 := Lib.hid (HTa.out.farB hap HRa.out (by have := HBl.out; omega) (.slice A1 ((rmergeF a b (fs.take j)).length + 1) c1) 1); have hg := hap.grown.size; have HSz8 := Lib.hid (show w3.heap.size + 1 ≤ (w8.setCell ⟨w3.heap.size, 1, none⟩ (.slice A1 ((rmergeF a b (fs.take j)).length + 1) c1)).heap.size by have := HSz7.out; simp at hg ⊢; omega); clear hap cy hg)
                go_wp2
                go_roundw
                case rel => exact ⟨j + 1, _, by go_num, by omega, by rw [HS2.out, HRen.out, List.length_append]; exact HT8.out, HN8.out, HR8.out, HSz8.out⟩
                case measure => simp [intOf]; omega
        · have HK := Lib.hid (show fs.take j = fs from List.take_of_length_le (by omega))
          rw [HK.out] at HT
          have HRf := HR1
          have q0 := HR1.out.frozen 0
          have q1 := HR1.out.frozen 1
          have q2 := HR1.out.cell 0 _ rfl
          have q3 := HR1.out.cell 1 _ rfl
          have n0 := HT.out.cel.cell 0 _ rfl
          have n1 := HT.out.cel.cell 1 _ rfl
          clear HK
          go_wp2
          have hBl := HBl.out
          have hA := own_ne (own_ne HT.out.a (p := ⟨w.heap.size + 1, 0, none⟩) (fun e => by have := own_ge HT.out.a e; simp at this; omega) (.slice Aa (mergeP b ps).length ca)) (p := ⟨w.heap.size + 1, 1, none⟩) (fun e => by have := own_ge HT.out.a e; simp at this; omega) (.slice Ab (rmergeF a b fs).length cb)
          have hB := own_ne (own_ne HT.out.b (p := ⟨w.heap.size + 1, 0, none⟩) (fun e => by have := own_ge HT.out.b e; simp at this; omega) (.slice Aa (mergeP b ps).length ca)) (p := ⟨w.heap.size + 1, 1, none⟩) (fun e => by have := own_ge HT.out.b e; simp at this; omega) (.slice Ab (rmergeF a b fs).length cb)
          have kk := HRf.out.set2 (.slice Aa (mergeP b ps).length ca) (.slice Ab (rmergeF a b fs).length cb)
          have k0 := kk.cell 0 _ rfl
          have k1 := kk.cell 1 _ rfl
          have hS1 := Sl.of_own hA
          have hS2 := Sl.of_own hB
          exact bodyPost_ret (v := .tuple #[.agg #[.slice Aa (mergeP b ps).length ca, .slice Ab (rmergeF a b fs).length cb], .int .i64 0]) (by simp [results, Tryz.results41, go_sem, k0, k1]) rfl ⟨(HT.out.below.setCell (p := ⟨w.heap.size + 1, 0, none⟩) (by simp) _).setCell (p := ⟨w.heap.size + 1, 1, none⟩) (by simp) _, _, _, _, _, _, _, rfl, ⟨hS1, hS2⟩⟩
/-- The reference merges as the program. -/
theorem rmerge_any (A : Option Addr) (n c : Nat) (F : Option Addr) (m d : Nat) (ps : List ByteArray) (fs : List Fa) (a b : ByteArray) (w : World) (h : NetC w A n c F m d ps fs) (hs : Short ps) :
    Calls Tryz.prog 41 #[.agg #[.slice A n c, .slice F m d], .string a, .string b] w (MergeP (mergeV ps fs a b) w) := by
  obtain ⟨e1, e2, _⟩ := h.many
  subst e1
  subst e2
  unfold mergeV
  rcases namedF_cases ps fs [a, b] with hr | ⟨hc, hk, hp, hfew, hall⟩
  · rw [if_pos (by omega)]
    exact rmerge_bad _ hr A c F d ps fs a b w h hs rfl
  · rw [if_neg (by omega)]
    by_cases hab : a = b
    · rw [if_pos hab]
      exact rmerge_same A c F d ps fs a b w h hs hc hab
    · rw [if_neg hab]
      have hpar := merge_par (a := a) (b := b) (fs := fs)
      cases hm : mergeF a b fs with
      | none =>
        rw [hm] at hpar
        exact rmerge_par A c F d ps fs a b w h hs hc hab hpar
      | some gs =>
        rw [hm, show (some gs).isNone = false from rfl, Bool.or_eq_false_iff] at hpar
        have hin : a ∈ ps ∧ b ∈ ps := by
          rw [named_two ps fs a b hk] at hc
          exact Classical.byContradiction fun q => by rw [if_neg q] at hc; cases hc
        have hg := rmerge_good A c F d ps fs a b w h hs hc hab hp hfew hpar.1 hpar.2
        have hck : namesOk ps = true ∧ AllAbout ps fs := by
          rcases checkF_cases ps fs with q | q | ⟨_, _, _, q1, q2⟩
          · omega
          · omega
          · exact ⟨q1, q2⟩
        rw [merge_ref hck.1 hin.1 hin.2 hck.2 hab hm] at hg
        exact hg
end

section
open Go Go.RowKit Go.Shelf
attribute [local go_sem] Oper.semAt_some

theorem sameV_good {ps : List ByteArray} {fs gs : List Fa} {a b : ByteArray} (hk : checkF ps fs = 0) (hc : namedF ps fs [a, b] = 0) (hab : a ≠ b) (hm : mergeF a b fs = some gs) :
    sameV ps fs a b = ((solveF (mergeP b ps) gs).isSome, 0) ∧ (mergeP b ps).length ≤ 24 ∧ gs.length ≤ 48 ∧ AllAbout (mergeP b ps) gs := by
  have hin : a ∈ ps ∧ b ∈ ps := by
    rw [named_two ps fs a b hk] at hc
    exact Classical.byContradiction fun q => by rw [if_neg q] at hc; cases hc
  have hck := merge_check hk hab hin.1 hin.2 hm
  unfold sameV consF
  rw [hc, if_neg (fun q => q rfl), if_neg hab, hm]
  refine ⟨?_, ?_⟩
  · show (decide (checkF (mergeP b ps) gs = 0) && (solveF (mergeP b ps) gs).isSome, checkF (mergeP b ps) gs) = _
    rw [hck]
    simp
  rcases checkF_cases (mergeP b ps) gs with q | q | ⟨_, q1, q2, _, q3⟩
  · omega
  · omega
  · exact ⟨q1, q2, q3⟩
set_option maxRecDepth 100000 in
set_option maxHeartbeats 4000000 in
theorem rsame_bad (r : Int) (hr : r = 3 ∨ r = 100 ∨ r = 2) (A : Option Addr) (n c : Nat) (F : Option Addr) (m d : Nat) (ps : List ByteArray) (fs : List Fa) (a b : ByteArray) (w : World) (h : NetC w A n c F m d ps fs) (hs : Short ps) (hc : namedF ps fs [a, b] = r) :
    Calls Tryz.prog 43 #[.agg #[.slice A n c, .slice F m d], .string a, .string b] w fun e w' => e = .returned (.tuple #[.bool false, .int .i64 r]) ∧ Below w.heap.size w w' := by
  have hb0 := below_alloc' w (.cells #[.slice A n c, .slice F m d] 25)
  have y0 := Cel.new w 25 #[.slice A n c, .slice F m d]
  have HK := Lib.hid (asked_any A n c F m d ps fs a b _ (h.below hb0) hs)
  rw [hc] at HK
  clear h hs hc
  rcases hr with rfl | rfl | rfl
  all_goals
    go_enter Tryz.func43, Tryz.ntmps43
    go_wp2_with fail
    refine HK.out.mono ?_
    rintro e w1 ⟨rfl, hb1⟩
    have HB := Lib.hid (hb0.trans (hb1.mono hb0.size))
    have HY := Lib.hid (y0.below y0.lt hb1)
    have z0 := HY.out.cell 0 _ rfl
    have z1 := HY.out.cell 1 _ rfl
    clear hb0 hb1 y0 HK
    go_wp2
    go_ret2
    exact ⟨rfl, HB.out⟩
set_option maxRecDepth 100000 in
set_option maxHeartbeats 4000000 in
theorem rsame_eq (A : Option Addr) (n c : Nat) (F : Option Addr) (m d : Nat) (ps : List ByteArray) (fs : List Fa) (a b : ByteArray) (w : World) (h : NetC w A n c F m d ps fs) (hs : Short ps) (hc : namedF ps fs [a, b] = 0) (hab : a = b) :
    Calls Tryz.prog 43 #[.agg #[.slice A n c, .slice F m d], .string a, .string b] w fun e w' => e = .returned (.tuple #[.bool true, .int .i64 0]) ∧ Below w.heap.size w w' := by
  have hb0 := below_alloc' w (.cells #[.slice A n c, .slice F m d] 25)
  have y0 := Cel.new w 25 #[.slice A n c, .slice F m d]
  have HK := Lib.hid (asked_any A n c F m d ps fs a b _ (h.below hb0) hs)
  rw [hc] at HK
  have heq : (a.toList == b.toList) = true := by rw [hab]; simp
  clear h hs hc hab
  go_enter Tryz.func43, Tryz.ntmps43
  go_wp2_with fail
  refine HK.out.mono ?_
  rintro e w1 ⟨rfl, hb1⟩
  have HB := Lib.hid (hb0.trans (hb1.mono hb0.size))
  have HY := Lib.hid (y0.below y0.lt hb1)
  have z0 := HY.out.cell 0 _ rfl
  have z1 := HY.out.cell 1 _ rfl
  clear hb0 hb1 y0 HK
  go_wp2
  go_ret2
  exact ⟨rfl, HB.out⟩
set_option maxRecDepth 100000 in
set_option maxHeartbeats 4000000 in
theorem rsame_par (A : Option Addr) (n c : Nat) (F : Option Addr) (m d : Nat) (ps : List ByteArray) (fs : List Fa) (a b : ByteArray) (w : World) (h : NetC w A n c F m d ps fs) (hs : Short ps) (hc : namedF ps fs [a, b] = 0) (hab : a ≠ b) (hm : mergeF a b fs = none) :
    Calls Tryz.prog 43 #[.agg #[.slice A n c, .slice F m d], .string a, .string b] w fun e w' => e = .returned (.tuple #[.bool false, .int .i64 0]) ∧ Below w.heap.size w w' := by
  have hb0 := below_alloc' w (.cells #[.slice A n c, .slice F m d] 25)
  have y0 := Cel.new w 25 #[.slice A n c, .slice F m d]
  have HK := Lib.hid (asked_any A n c F m d ps fs a b _ (h.below hb0) hs)
  rw [hc] at HK
  have HN := Lib.hid h
  have HM := Lib.hid (fun w' h' => rmerge_any A n c F m d ps fs a b w' h' hs)
  have heq : (a.toList == b.toList) = false := by rw [beqL]; exact decide_eq_false hab
  have HMv := Lib.hid (show mergeV ps fs a b = ([], [], 101) by unfold mergeV; rw [hc, if_neg (fun q => q rfl), if_neg hab, hm])
  clear h hs hc hab hm
  go_enter Tryz.func43, Tryz.ntmps43
  go_wp2_with fail
  refine HK.out.mono ?_
  rintro e w1 ⟨rfl, hb1⟩
  have HB := Lib.hid (hb0.trans (hb1.mono hb0.size))
  have HY := Lib.hid (y0.below y0.lt hb1)
  have z0 := HY.out.cell 0 _ rfl
  have z1 := HY.out.cell 1 _ rfl
  clear hb0 hb1 y0 HK
  go_wp2_with fail
  have HM1 := Lib.hid (HM.out w1 (HN.out.below HB.out))
  rw [HMv.out] at HM1
  refine HM1.out.mono ?_
  rintro e w2 ⟨hb2, A2, n2, c2, F2, m2, d2, rfl, hn2⟩
  have HB2 := Lib.hid (HB.out.trans (hb2.mono HB.out.size))
  have HN2 := Lib.hid hn2
  clear hb2 hn2 HM1 z0 z1
  have l0 := (Cel.new w2 25 #[.slice none 0 0, .slice none 0 0]).cell 0 _ rfl
  have l1 := (Cel.new w2 25 #[.slice none 0 0, .slice none 0 0]).cell 1 _ rfl
  have l2 := (Cel.new w2 25 #[.slice none 0 0, .slice none 0 0]).frozen 0
  have l3 := (Cel.new w2 25 #[.slice none 0 0, .slice none 0 0]).frozen 1
  go_upto_region 7 with fail
  clear l0 l1 l2 l3
  have HO := Lib.hid (Cel.new w2 25 #[.slice A2 n2 c2, .slice F2 m2 d2])
  have HB3 := Lib.hid (HB2.out.alloc HB2.out.size (.cells #[.slice A2 n2 c2, .slice F2 m2 d2] 25))
  have HN3 := Lib.hid (HN2.out.below (below_alloc' w2 (.cells #[.slice A2 n2 c2, .slice F2 m2 d2] 25)))
  have x0 := HO.out.cell 0 _ rfl
  have x1 := HO.out.cell 1 _ rfl
  go_wp2
  go_ret2
  exact ⟨rfl, HB3.out⟩
set_option maxRecDepth 100000 in
set_option maxHeartbeats 4000000 in
theorem rsame_good (A : Option Addr) (n c : Nat) (F : Option Addr) (m d : Nat) (ps : List ByteArray) (fs : List Fa) (a b : ByteArray) (w : World) (h : NetC w A n c F m d ps fs) (hs : Short ps) (gs : List Fa) (hc : namedF ps fs [a, b] = 0) (hab : a ≠ b) (hm : mergeF a b fs = some gs) (h1 : (mergeP b ps).length ≤ 24) (h2 : gs.length ≤ 48) (h3 : AllAbout (mergeP b ps) gs) :
    Calls Tryz.prog 43 #[.agg #[.slice A n c, .slice F m d], .string a, .string b] w fun e w' => e = .returned (.tuple #[.bool (solveF (mergeP b ps) gs).isSome, .int .i64 0]) ∧ Below w.heap.size w w' := by
  have hb0 := below_alloc' w (.cells #[.slice A n c, .slice F m d] 25)
  have y0 := Cel.new w 25 #[.slice A n c, .slice F m d]
  have HK := Lib.hid (asked_any A n c F m d ps fs a b _ (h.below hb0) hs)
  rw [hc] at HK
  have HN := Lib.hid h
  have HM := Lib.hid (fun w' h' => rmerge_any A n c F m d ps fs a b w' h' hs)
  have heq : (a.toList == b.toList) = false := by rw [beqL]; exact decide_eq_false hab
  have HMv := Lib.hid (show mergeV ps fs a b = (mergeP b ps, gs, 0) by unfold mergeV; rw [hc, if_neg (fun q => q rfl), if_neg hab, hm])
  have HS := Lib.hid (fun v vf w' (hv : Sl w' 1 v (namesV (mergeP b ps))) (hf : Sl w' 4 vf (fasV gs)) => rsolved2 v vf (mergeP b ps) gs w' hv hf h1 (by omega) h3)
  obtain ⟨r, hr⟩ : ∃ r, (solveF (mergeP b ps) gs).isSome = r := ⟨_, rfl⟩
  rw [hr]
  have HR := Lib.hid hr
  clear h hs hc hab hm h1 h2 h3 hr
  go_enter Tryz.func43, Tryz.ntmps43
  go_wp2_with fail
  refine HK.out.mono ?_
  rintro e w1 ⟨rfl, hb1⟩
  have HB := Lib.hid (hb0.trans (hb1.mono hb0.size))
  have HY := Lib.hid (y0.below y0.lt hb1)
  have z0 := HY.out.cell 0 _ rfl
  have z1 := HY.out.cell 1 _ rfl
  clear hb0 hb1 y0 HK
  go_wp2_with fail
  have HM1 := Lib.hid (HM.out w1 (HN.out.below HB.out))
  rw [HMv.out] at HM1
  refine HM1.out.mono ?_
  rintro e w2 ⟨hb2, A2, n2, c2, F2, m2, d2, rfl, hn2⟩
  have HB2 := Lib.hid (HB.out.trans (hb2.mono HB.out.size))
  have HN2 := Lib.hid hn2
  clear hb2 hn2 HM1 z0 z1
  have l0 := (Cel.new w2 25 #[.slice none 0 0, .slice none 0 0]).cell 0 _ rfl
  have l1 := (Cel.new w2 25 #[.slice none 0 0, .slice none 0 0]).cell 1 _ rfl
  have l2 := (Cel.new w2 25 #[.slice none 0 0, .slice none 0 0]).frozen 0
  have l3 := (Cel.new w2 25 #[.slice none 0 0, .slice none 0 0]).frozen 1
  go_upto_region 7 with fail
  clear l0 l1 l2 l3
  have HO := Lib.hid (Cel.new w2 25 #[.slice A2 n2 c2, .slice F2 m2 d2])
  have HB3 := Lib.hid (HB2.out.alloc HB2.out.size (.cells #[.slice A2 n2 c2, .slice F2 m2 d2] 25))
  have HN3 := Lib.hid (HN2.out.below (below_alloc' w2 (.cells #[.slice A2 n2 c2, .slice F2 m2 d2] 25)))
  have x0 := HO.out.cell 0 _ rfl
  have x1 := HO.out.cell 1 _ rfl
  go_wp2_with fail
  refine (HS.out _ _ _ HN3.out.people HN3.out.facts).mono ?_
  rintro e w4 ⟨hb4, hq⟩
  have HB4 := Lib.hid (HB3.out.trans (hb4.mono HB3.out.size))
  clear hb4
  rcases hq with ⟨hq, rfl⟩ | ⟨E, M, B, vs, hq, _, rfl, _⟩
  · obtain rfl : r = false := by rw [← HR.out, hq]; rfl
    clear hq
    go_wp2
    go_ret2
    exact ⟨rfl, HB4.out⟩
  · obtain rfl : r = true := by rw [← HR.out, hq]; rfl
    clear hq
    go_wp2
    go_ret2
    exact ⟨rfl, HB4.out⟩
/-- The reference answers as the program. -/
theorem rsame_any (A : Option Addr) (n c : Nat) (F : Option Addr) (m d : Nat) (ps : List ByteArray) (fs : List Fa) (a b : ByteArray) (w : World) (h : NetC w A n c F m d ps fs) (hs : Short ps) :
    Calls Tryz.prog 43 #[.agg #[.slice A n c, .slice F m d], .string a, .string b] w fun e w' => e = .returned (.tuple #[.bool (sameV ps fs a b).1, .int .i64 (sameV ps fs a b).2]) ∧ Below w.heap.size w w' := by
  rcases namedF_cases ps fs [a, b] with hr | ⟨hc, hk, _⟩
  · have := rsame_bad _ hr A n c F m d ps fs a b w h hs rfl
    have e : sameV ps fs a b = (false, namedF ps fs [a, b]) := if_pos (by omega)
    rw [e]
    exact this
  · by_cases hab : a = b
    · have e : sameV ps fs a b = (true, 0) := by
        unfold sameV
        rw [if_neg (by omega), if_pos hab]
      rw [e]
      exact rsame_eq A n c F m d ps fs a b w h hs hc hab
    · cases hm : mergeF a b fs with
      | none =>
        have e : sameV ps fs a b = (false, 0) := by
          unfold sameV
          rw [if_neg (by omega), if_neg hab, hm]
        rw [e]
        exact rsame_par A n c F m d ps fs a b w h hs hc hab hm
      | some gs =>
        obtain ⟨e, h1, h2, h3⟩ := sameV_good hk hc hab hm
        rw [e]
        exact rsame_good A n c F m d ps fs a b w h hs gs hc hab hm h1 h2 h3
end
end Go.Proofs.YtdmcopjbckelmaaGreatDoor
