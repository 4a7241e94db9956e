/- PeopleFactsNarrow: the walk. Conditions: those stated. -/
import Derived.Test.YtdmcopjbckelmaaDoorZL3
import Derived.Test.YtdmcopjbckelmaaDoorZV3
namespace Go.Proofs.YtdmcopjbckelmaaDoor
open Go Go.RowKit Go.Shelf
attribute [local go_sem] Oper.semAt_some

theorem stepFactB {ops : Array Oper} {o : Oper} {a : Act} {K : Act → World → Prop} {Q : Exit → Act → World → Prop} {E : Prop} {w : World} (s x : Operand) (hgd : o.guard = none) (ho : o.op = .call { callee := .builtin .append, args := #[s, x], argTypes := #[23, 23] })
    {base n : Nat} {v vx : Value} {xs news : List Value} (hs : a.eval s = v) (hx : a.eval x = vx) (hown : w.ownsRow base 40 4 v n xs) (hr : Sl w 4 vx news) (h1 : ∀ u ∈ news, u.oneCell' = true)
    {N : Nat} (hN : n * 4 + news.length = N * 4) (hb : N * 48 ≤ 140737488355328) (hbase : base ≤ w.heap.size)
    (h : ∀ A c w', Appended base 40 4 v xs news w w' A N c → K (a.put o.dst (.slice A N c)) w') : if Region.wanted o (yielded ops a.tmps) = true then Oper.wp Tryd.prog o a w K Q else E := by
  obtain ⟨i, hi, hz0, hz1, hz2⟩ := info_parts infoFact
  exact step_app w hgd s x 23 ho base 40 i (.agg #[.int .i64 0, .string ⟨#[]⟩, .string ⟨#[]⟩, .int .i64 0]) 4 48 Tryd.underlying23 hi hz0 hz1 hz2 rfl (by decide) v n xs hs hown vx news hx hr h1 N hN hb (by decide) hbase h
theorem below_undrew {V w : World} (h : Below V.drew.heap.size V.drew w) : Below V.heap.size V w := ⟨h.os, h.tape, h.output, h.size, h.block⟩
theorem factE_good {ps : List ByteArray} {fs : List Fa} {f : Fa} (h : factE ps fs f = 0) : checkF ps fs = 0 ∧ aboutB ps f = true := by
  unfold factE at h
  by_cases hc : checkF ps fs = 0
  · rw [if_neg (fun q => q hc)] at h
    cases ha : aboutB ps f with
    | true => exact ⟨hc, rfl⟩
    | false => rw [ha] at h; cases h
  · rw [if_pos hc] at h
    exact absurd h hc
theorem about_snoc {ps : List ByteArray} {fs : List Fa} {x : Fa} (h : AllAbout ps fs) (hx : aboutB ps x = true) : AllAbout ps (fs ++ [x]) := fun f hf => by
  rcases List.mem_append.1 hf with q | q
  · exact h f q
  · rw [List.mem_singleton.1 q]; exact hx
theorem lit_plain {fs : List Fa} {k t : Int} {a b : ByteArray} {u : Value} (h : u ∈ fasV fs ++ [.int .i64 k, .string a, .string b, .int .i64 t]) (A : Option Addr) (n c : Nat) : u ≠ .slice A n c := by
  rcases List.mem_append.1 h with q | q
  · exact fas_plain q A n c
  · simp only [List.mem_cons, List.not_mem_nil, or_false] at q
    rcases q with rfl | rfl | rfl | rfl <;> intro e <;> cases e
theorem fas_one {l : List Fa} : ∀ u ∈ fasV l, u.oneCell' = true := by
  intro u h
  unfold fasV at h
  obtain ⟨f, _, hu⟩ := List.mem_flatMap.1 h
  unfold faV at hu
  simp only [List.mem_cons, List.not_mem_nil, or_false] at hu
  rcases hu with rfl | rfl | rfl | rfl <;> rfl
theorem fas_snoc (fs : List Fa) (f : Fa) : fasV (fs ++ [f]) = fasV fs ++ faV f := by simp [fasV]
set_option maxRecDepth 100000 in
set_option maxHeartbeats 8000000 in
theorem factsNarrow_any (A : Option Addr) (c : Nat) (F : Option Addr) (d : Nat) (k : Int) (a b : ByteArray) (t : Int) (ps : List ByteArray) (fs : List Fa) (w : World) (h : NetC w A ps.length c F fs.length d ps fs) (hs : Short ps) (hz : Zw w) (hfs : fs.length * 48 ≤ 140737488351232) :
    Calls Tryd.prog 6 #[.agg #[.slice A ps.length c, .slice F fs.length d], .agg #[.int .i64 k, .string a, .string b, .int .i64 t]] w fun e w' => e = .returned (.bool true) ∧ Below w.heap.size w w' := by
  obtain ⟨_, _, hm1, hm2, hm3, hm4⟩ := h.many
  have hb0 := (below_alloc' w (.cells #[.slice A ps.length c, .slice F fs.length d] 25)).alloc (by simp) (.cells #[.int .i64 k, .string a, .string b, .int .i64 t] 40)
  have y0 := (Cel.new w 25 #[.slice A ps.length c, .slice F fs.length d]).alloc (.cells #[.int .i64 k, .string a, .string b, .int .i64 t] 40)
  have y1 := Cel.new (w.alloc (.cells #[.slice A ps.length c, .slice F fs.length d] 25)) 40 #[.int .i64 k, .string a, .string b, .int .i64 t]
  simp only [World.size_alloc] at y1
  obtain ⟨W, hW⟩ : ∃ W, ((w.alloc (.cells #[.slice A ps.length c, .slice F fs.length d] 25)).alloc (.cells #[.int .i64 k, .string a, .string b, .int .i64 t] 40)) = W := ⟨_, rfl⟩
  rw [hW] at hb0 y0 y1
  have HB0 := Lib.hid hb0
  have HY0 := Lib.hid y0
  have HY1 := Lib.hid y1
  have HN := Lib.hid h
  have HWk := Lib.hid (fun w' hb => works_any w' (hz.below hb))
  have HMa := Lib.hid (fun w' (hw : Below w.heap.size w w') => may_any A ps.length c F fs.length d ps fs ⟨k, a, b, t⟩ w' (h.below hw) hs)
  unfold faA at HMa
  simp only at HMa
  have HL := Lib.hid (fun w' (hw : Below w.heap.size w w') => lives_any A ps.length c F fs.length d ps fs w' (h.below hw) hs)
  have HL2 := Lib.hid (fun A' c' w' (hw : NetC w' A ps.length c A' (fs.length + 1) c' ps (fs ++ [⟨k, a, b, t⟩])) => lives_any A ps.length c A' (fs.length + 1) c' ps (fs ++ [⟨k, a, b, t⟩]) w' hw hs)
  have HFs := Lib.hid hfs
  clear h hs hz hb0 y0 y1 hfs
  have z0 := HY0.out.cell 0 _ rfl
  have z1 := HY0.out.cell 1 _ rfl
  have f0 := HY1.out.cell 0 _ rfl
  have f1 := HY1.out.cell 1 _ rfl
  have f2 := HY1.out.cell 2 _ rfl
  have f3 := HY1.out.cell 3 _ rfl
  go_enter Tryd.func6, Tryd.ntmps6
  go_wp2_with fail
  refine (HMa.out _ HB0.out).mono ?_
  rintro e w1 ⟨rfl, hb1⟩
  clear z0 z1 f0 f1 f2 f3
  have HB1 := Lib.hid (HB0.out.trans (hb1.mono HB0.out.size))
  replace HY0 := Lib.hid (HY0.out.below HY0.out.lt hb1)
  replace HY1 := Lib.hid (HY1.out.below HY1.out.lt hb1)
  have z0 := HY0.out.cell 0 _ rfl
  have z1 := HY0.out.cell 1 _ rfl
  have f0 := HY1.out.cell 0 _ rfl
  have f1 := HY1.out.cell 1 _ rfl
  have f2 := HY1.out.cell 2 _ rfl
  have f3 := HY1.out.cell 3 _ rfl
  clear hb1
  go_wp2_with fail
  clear z0 z1 f0 f1 f2 f3
  refine (HL.out _ HB1.out).mono ?_
  rintro e w2 ⟨hb2, vl, rfl, hvl⟩
  have HVl := Lib.hid hvl
  have HB2 := Lib.hid (HB1.out.trans (hb2.mono HB1.out.size))
  replace HY0 := Lib.hid (HY0.out.below HY0.out.lt hb2)
  replace HY1 := Lib.hid (HY1.out.below HY1.out.lt hb2)
  have z0 := HY0.out.cell 0 _ rfl
  have z1 := HY0.out.cell 1 _ rfl
  have f0 := HY1.out.cell 0 _ rfl
  have f1 := HY1.out.cell 1 _ rfl
  have f2 := HY1.out.cell 2 _ rfl
  have f3 := HY1.out.cell 3 _ rfl
  clear hb2
  clear hvl HMa HL
  have m0 := (Cel.new w2 25 #[.slice none 0 0, .slice none 0 0]).frozen 0
  have m1 := (Cel.new w2 25 #[.slice none 0 0, .slice none 0 0]).cell 0 _ rfl
  have g0 := below_cell (below_alloc' w2 (.cells #[.slice none 0 0, .slice none 0 0] 25)) z0
  clear z0 z1 f0 f1 f2 f3
  go_upto_region 5 with fail
  obtain ⟨V, hV⟩ : ∃ V, w2.alloc (.cells #[.slice A ps.length c, .slice none 0 0] 25) = V := ⟨_, rfl⟩
  have hYm : Cel V w2.heap.size 25 #[.slice A ps.length c, .slice none 0 0] := by
    rw [← hV]
    exact Cel.new w2 25 #[.slice A ps.length c, .slice none 0 0]
  have hBV : Below w2.heap.size w2 V := by
    rw [← hV]
    exact below_alloc' w2 (.cells #[.slice A ps.length c, .slice none 0 0] 25)
  rw [hV]
  clear hV m0 m1 g0
  have HYm := Lib.hid hYm
  have HBV := Lib.hid hBV
  have HSf := Lib.hid ((HN.out.facts.below HB2.out).below hBV)
  have HSp := Lib.hid ((HN.out.people.below HB2.out).below hBV)
  have HMl := Lib.hid hYm.lt
  replace HY0 := Lib.hid (HY0.out.below HY0.out.lt hBV)
  replace HY1 := Lib.hid (HY1.out.below HY1.out.lt hBV)
  clear hBV hYm
  have n0 := HYm.out.cell 1 (.slice none 0 0) rfl
  have n1 := HYm.out.frozen 1
  have z1 := HY0.out.cell 1 _ rfl
  have f0 := HY1.out.cell 0 _ rfl
  have f1 := HY1.out.cell 1 _ rfl
  have f2 := HY1.out.cell 2 _ rfl
  have f3 := HY1.out.cell 3 _ rfl
  have na := (HYm.out.alloc (.cells #[.int .i64 k, .string a, .string b, .int .i64 t] 40)).cell 1 (.slice none 0 0) rfl
  have za := (HY0.out.alloc (.cells #[.int .i64 k, .string a, .string b, .int .i64 t] 40)).cell 1 _ rfl
  have HSx := Lib.hid (Sl.new (s := 4) V 40 1 1 #[.int .i64 k, .string a, .string b, .int .i64 t] rfl (Nat.le_refl _) (by decide))
  go_cut [] (fun wx => ∃ (Wc : World) (A1 : Option Addr) (c1 : Nat), Wc = wx ∧ Cel Wc w2.heap.size 25 #[.slice A ps.length c, .slice A1 (fs.length + 1) c1] ∧ Sl Wc 4 (.slice A1 (fs.length + 1) c1) (fasV fs ++ [.int .i64 k, .string a, .string b, .int .i64 t]) ∧ Below w2.heap.size w2 Wc)
  case first =>
    go_region_law (first
      | (refine stepFactB (.tmp 28) (.tmp 30) rfl rfl (by rfl) (by rfl) (World.ownsRow_nil _ V.heap.size _ _) (by first | exact HSf.out.drew | exact (HSf.out.alloc (.cells #[.int .i64 k, .string a, .string b, .int .i64 t] 40)).drew) fas_one (N := fs.length) (by rw [fasV_length]; omega) (by have := HFs.out; omega) (by simp) ?_; intro A5 c5 w5 hap; have HAP := Lib.hid hap; have hb5 : Below V.heap.size V w5 := (by first | exact below_undrew (below_grown hap.grown (fun g e => by cases e)) | exact below_then (below_alloc' V (.cells #[.int .i64 k, .string a, .string b, .int .i64 t] 40)) (below_undrew (below_grown hap.grown (fun g e => by cases e)))); have HB5 := Lib.hid hb5; have HL5 := Lib.hid (fun (q : True) => hap.grown); have e0 := below_cell hb5 f0; have e1 := below_cell hb5 f1; have e2 := below_cell hb5 f2; have e3 := below_cell hb5 f3; clear hap hb5)
      | (refine stepFactB (.tmp 31) (.tmp 33) rfl rfl (by rfl) (by rfl) (by first | exact HAP.out.own | exact HAP.out.own.alloc (.cells #[.int .i64 k, .string a, .string b, .int .i64 t] 40)) (by first | exact Sl.new (s := 4) w5 40 1 1 #[.int .i64 k, .string a, .string b, .int .i64 t] rfl (Nat.le_refl _) (by decide) | exact HSx.out.below (below_undrew (below_grown (HL5.out trivial) (fun g e => by cases e)))) (by simp [Value.oneCell']) (N := fs.length + 1) (by simp; omega) (by have := HFs.out; omega) (by have := HB5.out.size; simp; omega) ?_; intro A6 c6 w6 hap; have HD := Lib.hid (show Cel w6 w2.heap.size 25 #[.slice A ps.length c, .slice none 0 0] by first | exact (HYm.out.below HMl.out HB5.out).kept hap.grown (fun e => by have := own_ge HAP.out.own e.symm; have := HMl.out; omega) | exact ((HYm.out.below HMl.out HB5.out).alloc (.cells #[.int .i64 k, .string a, .string b, .int .i64 t] 40)).kept hap.grown (fun e => by have := own_ge HAP.out.own e.symm; have := HMl.out; omega)); have HE := Lib.hid (Sl.of_own hap.own); have HG := Lib.hid (show Below w2.heap.size w2 w6 by first | exact below_of_own hap.grown HAP.out.own (HBV.out.trans (HB5.out.mono HBV.out.size)) HBV.out.size | exact below_of_own hap.grown (HAP.out.own.alloc (.cells #[.int .i64 k, .string a, .string b, .int .i64 t] 40)) ((HBV.out.trans (HB5.out.mono HBV.out.size)).alloc (HBV.out.trans (HB5.out.mono HBV.out.size)).size (.cells #[.int .i64 k, .string a, .string b, .int .i64 t] 40)) HBV.out.size); have q0 := HD.out.cell 1 (.slice none 0 0) rfl; have q1 := HD.out.frozen 1; have Q0 := Lib.hid q0; clear hap))
    all_goals (
      go_wp2
      go_meet
      exact ⟨_, A6, c6, rfl, HD.out.setAt 1 (.slice A6 (fs.length + 1) c6), HE.out.setCell Q0.out (fun u hu => lit_plain hu _ _ _) _, HG.out.setCell (p := ⟨w2.heap.size, 1, none⟩) (by simp) _⟩)
  case rest =>
    obtain ⟨V7, A7, c7, rfl, hm, hsx, hb7⟩ := hcut
    have HB7 := Lib.hid (HB2.out.trans (hb7.mono HB2.out.size))
    have HM7 := Lib.hid hm
    have HVl7 := Lib.hid (HVl.out.below hb7)
    have HN7 := Lib.hid (show NetC V7 A ps.length c A7 (fs.length + 1) c7 ps (fs ++ [⟨k, a, b, t⟩]) from ⟨(HN.out.people.below HB2.out).below hb7, by rw [fas_snoc]; exact hsx⟩)
    clear n0 n1 z1 f0 f1 f2 f3 na za hm hsx hb7 HYm HBV HSf HSp HMl HSx HY0 HY1
    have y0 := HM7.out.cell 0 _ rfl
    have y1 := HM7.out.cell 1 _ rfl
    generalize hfe : factE ps fs ⟨k, a, b, t⟩ = fe at *
    by_cases he : fe = 0
    · obtain ⟨hc, ha⟩ := factE_good (hfe.trans he)
      obtain ⟨_, hp, hfew, hn, hf⟩ : checkF ps fs = 0 ∧ ps.length ≤ 24 ∧ fs.length ≤ 48 ∧ namesOk ps = true ∧ AllAbout ps fs := by
        rcases checkF_cases ps fs with q | q | q
        · omega
        · omega
        · exact q
      have d0 : (fe != 0) = false := by rw [he]; rfl
      by_cases hl : 48 < fs.length + 1
      · have d1 : decide ((48 : Int) < ((fs.length + 1 : Nat) : Int)) = true := decide_eq_true (by omega)
        have d3 : (48 : Int) < (fs.length : Int) + 1 := by omega
        clear he hfe hc ha hp hfew hn hf
        go_wp2_with fail
        refine (HWk.out _ HB7.out).mono ?_
        rintro e wz ⟨rfl, hbz⟩
        have HBz := Lib.hid (HB7.out.trans (hbz.mono HB7.out.size))
        clear hbz
        go_wp2
        go_ret
        exact ⟨rfl, HBz.out⟩
      · have d1 : decide ((48 : Int) < ((fs.length + 1 : Nat) : Int)) = false := decide_eq_false (by omega)
        have d2 : decide ((48 : Int) < (fs.length : Int) + 1) = false := decide_eq_false (by omega)
        have d3 : ¬ (48 : Int) < (fs.length : Int) + 1 := by omega
        have hc2 : checkF ps (fs ++ [⟨k, a, b, t⟩]) = 0 := check_yes (by simp; omega) hn (about_snoc hf ha)
        have hmay : mayB ps fs ⟨k, a, b, t⟩ = (solveF ps (fs ++ [⟨k, a, b, t⟩])).isSome := (mayB_ok hc ha).1
        have hL := HL2.out _ _ _ HN7.out
        have HLe := Lib.hid (show livE ps (fs ++ [⟨k, a, b, t⟩]) = if (solveF ps (fs ++ [⟨k, a, b, t⟩])).isSome then 0 else 101 by unfold livE; rw [hc2, if_neg (fun q => q rfl)])
        cases hq : solveF ps (fs ++ [⟨k, a, b, t⟩]) with
        | none =>
          have HLl : livL ps (fs ++ [⟨k, a, b, t⟩]) = [] := by
            unfold livL
            rw [hc2, if_neg (fun q => q rfl), hq]
          rw [HLe.out, HLl, hq] at hL
          rw [hq] at hmay
          rw [hmay]
          have HLb := Lib.hid hL
          clear he hfe hc ha hp hfew hn hf hc2 hmay hL hq HLe HLl HL2
          go_wp2_with fail
          refine HLb.out.mono ?_
          rintro e w8 ⟨hb8, vb, rfl, hvb⟩
          have HB8 := Lib.hid (HB7.out.trans (hb8.mono HB7.out.size))
          obtain ⟨Ab, nb, cb, rfl, hl0, _⟩ := hvb
          obtain rfl : nb = 0 := by simp at hl0; omega
          clear y0 y1 hb8 hl0
          go_wp2
          go_loopw [12] (fun ti wr => ti = .int .i64 0 ∧ wr = w8) (fun _ _ => 0)
          case atStart => exact ⟨rfl, rfl⟩
          case round =>
            obtain ⟨rfl, rfl⟩ := hrel
            go_wp2_with fail
            refine (HWk.out _ HB8.out).mono ?_
            rintro e wz ⟨rfl, hbz⟩
            have HBz := Lib.hid (HB8.out.trans (hbz.mono HB8.out.size))
            clear hbz
            go_wp2
            go_ret
            exact ⟨rfl, HBz.out⟩
        | some E =>
          obtain ⟨D, hD⟩ := some_of_snoc hq
          have HLl : livL ps (fs ++ [⟨k, a, b, t⟩]) = livesV E ps.length := by
            unfold livL
            rw [hc2, if_neg (fun q => q rfl), hq]
          rw [HLe.out, HLl, hq] at hL
          rw [hq] at hmay
          rw [hmay]
          have hle : livE ps fs = 0 := by
            unfold livE
            rw [hc, if_neg (fun q => q rfl), hD]
            rfl
          have hll : livL ps fs = livesV D ps.length := by
            unfold livL
            rw [hc, if_neg (fun q => q rfl), hD]
          rw [hle]
          rw [hll] at HVl7
          have HLb := Lib.hid hL
          have HNr := Lib.hid (fun i k' (hi : In ps.length i) (hk : In ps.length k') => narrow hp hf ha hD hq hi hk)
          have HP := Lib.hid hp
          clear he hfe hc ha hp hfew hn hf hc2 hmay hL hq HLe HLl HL2 hle hll hD
          go_wp2_with fail
          refine HLb.out.mono ?_
          rintro e w8 ⟨hb8, vb, rfl, hvb⟩
          have HB8 := Lib.hid (HB7.out.trans (hb8.mono HB7.out.size))
          obtain ⟨Ab, nb, cb, rfl, hl1, _, hcb, hcb4⟩ := hvb.open2 (by decide)
          rw [livesV_length] at hl1
          obtain rfl : nb = ps.length := by omega
          obtain ⟨Aa, na, ca, rfl, hl2, _, hca, hca4⟩ := (HVl7.out.below hb8).open2 (by decide)
          rw [livesV_length] at hl2
          obtain rfl : na = ps.length := by omega
          have HCb := Lib.hid hcb4
          have HCa := Lib.hid hca4
          clear y0 y1 hb8 hl1 hl2 hcb4 hca4 hvb
          go_wp2
          go_loopw [12] (fun ti wr => ∃ i : Nat, ti = .int .i64 i ∧ i ≤ ps.length ∧ Hid (Below w8.heap.size w8 wr)) (fun ti _ => ps.length - (intOf ti).toNat)
          case atStart => exact ⟨0, rfl, by omega, Below.refl _ _⟩
          case round =>
            obtain ⟨i, rfl, hi, HW⟩ := hrel
            have HBr := Lib.hid (HB8.out.trans (HW.out.mono HB8.out.size))
            by_cases hlt : i < ps.length
            · have hi24 : i < 24 := by have := HP.out; omega
              obtain ⟨b8, o8, rfl, _, hce⟩ := HCb.out (by omega)
              obtain ⟨b9, o9, rfl, _, hcf⟩ := HCa.out (by omega)
              have e0 := below_cell HW.out (hce _ _ (livesV_get hlt (t := 0) rfl))
              have g0 := below_cell HW.out (hcf _ _ (livesV_get hlt (t := 0) rfl))
              have e1 := below_cell HW.out (hce _ _ (livesV_get hlt (t := 1) rfl))
              have g1 := below_cell HW.out (hcf _ _ (livesV_get hlt (t := 1) rfl))
              have e2 := below_cell HW.out (hce _ _ (livesV_get hlt (t := 2) rfl))
              have g2 := below_cell HW.out (hcf _ _ (livesV_get hlt (t := 2) rfl))
              have e3 := below_cell HW.out (hce _ _ (livesV_get hlt (t := 3) rfl))
              have g3 := below_cell HW.out (hcf _ _ (livesV_get hlt (t := 3) rfl))
              rw [← Nat.add_assoc] at e0 e1 e2 e3 g0 g1 g2 g3
              rw [Nat.add_zero] at e0 g0
              have k0 := HNr.out 48 (2 * i) (In.org _) (.inl (by omega))
              have k1 := HNr.out (2 * i) 48 (.inl (by omega)) (In.org _)
              have k2 := HNr.out 48 (2 * i + 1) (In.org _) (.inl (by omega))
              have k3 := HNr.out (2 * i + 1) 48 (.inl (by omega)) (In.org _)
              have c0 : decide (-(E 48 (2 * i)) < -(D 48 (2 * i))) = false := decide_eq_false (by omega)
              have c1 : decide (D (2 * i) 48 < E (2 * i) 48) = false := decide_eq_false (by omega)
              have c2 : decide (-(E 48 (2 * i + 1)) < -(D 48 (2 * i + 1))) = false := decide_eq_false (by omega)
              have c3 : decide (D (2 * i + 1) 48 < E (2 * i + 1) 48) = false := decide_eq_false (by omega)
              clear hce hcf k0 k1 k2 k3
              generalize -(E 48 (2 * i)) = l0 at *
              generalize E (2 * i) 48 = l1 at *
              generalize -(E 48 (2 * i + 1)) = l2 at *
              generalize E (2 * i + 1) 48 = l3 at *
              generalize -(D 48 (2 * i)) = r0 at *
              generalize D (2 * i) 48 = r1 at *
              generalize -(D 48 (2 * i + 1)) = r2 at *
              generalize D (2 * i + 1) 48 = r3 at *
              go_wp2
              go_quiet (fail)
              go_wp2
              go_roundw
              case rel => exact ⟨i + 1, by go_num, by omega, below_drewN HW.out _⟩
              case measure => simp [intOf]; omega
            · clear hi
              go_wp2_with fail
              refine (HWk.out _ HBr.out).mono ?_
              rintro e wz ⟨rfl, hbz⟩
              have HBz := Lib.hid (HBr.out.trans (hbz.mono HBr.out.size))
              clear hbz
              go_wp2
              go_ret
              exact ⟨rfl, HBz.out⟩
    · have d0 : (fe != 0) = true := by
        rw [bne, beq_eq_false_iff_ne.2 he]
        rfl
      clear he hfe HL2 HN7 HVl7
      go_wp2_with fail
      refine (HWk.out _ HB7.out).mono ?_
      rintro e wz ⟨rfl, hbz⟩
      have HBz := Lib.hid (HB7.out.trans (hbz.mono HB7.out.size))
      clear hbz
      go_wp2
      go_ret
      exact ⟨rfl, HBz.out⟩
theorem factsNarrow_all (A : Option Addr) (n c : Nat) (F : Option Addr) (m d : Nat) (f : Fa) (ps : List ByteArray) (fs : List Fa) (w : World) (h : NetC w A n c F m d ps fs) (hs : Short ps) (hz : Zw w) (hfs : fs.length * 48 ≤ 140737488351232) :
    Calls Tryd.prog 6 #[.agg #[.slice A n c, .slice F m d], faA f] w fun e w' => e = .returned (.bool true) ∧ Below w.heap.size w w' := by
  obtain ⟨e1, e2, _⟩ := h.many
  subst e1
  subst e2
  obtain ⟨k, a, b, t⟩ := f
  exact factsNarrow_any A c F d k a b t ps fs w h hs hz hfs
end Go.Proofs.YtdmcopjbckelmaaDoor
