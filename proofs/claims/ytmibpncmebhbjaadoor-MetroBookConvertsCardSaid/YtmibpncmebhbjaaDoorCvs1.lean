/- The reference's Factor, Convert and Whole are the book's; the law's converts. -/
import Derived.Test.YtmibpncmebhbjaaDoorRbk9
import Derived.Test.YtmibpncmebhbjaaDoorOrd1
import Derived.Test.YtmibpncmebhbjaaDoorFrac6
import Derived.Test.YtmibpncmebhbjaaDoorP10
namespace Go.Proofs.YtmibpncmebhbjaaDoor
open Go Go.RowKit Go.Shelf

theorem factorF_chain (st : St) (a b : ByteArray) : chainF st [a, b] = factorF st a b := by
  unfold chainF factorF
  rw [show chainE [a, b].length = 0 from rfl, if_pos rfl]
section
variable {st : St} {bs : List Br} {a b : ByteArray}
theorem pair_ok (h1 : idxE st.ls a = 0) (h2 : idxE st.ls b = 0) : ∀ nm ∈ [a, b], idxE st.ls nm = 0 := fun nm hm => by
  rcases List.mem_cons.1 hm with rfl | hm
  · exact h1
  · simp at hm; subst hm; exact h2
theorem pair_apart (hd : BookD st bs) (h1 : idxE st.ls a = 0) (h2 : idxE st.ls b = 0) (hn : ¬ Conn (bs.map (edOf st)) (idxI st.ls a) (idxI st.ls b)) : alongE st [a, b] = 13 :=
  (ChD.start (names := [a, b]) (by simp)).apart hd (k := 1) (by simp) (pair_ok h1 h2) hn
theorem pair_path (hd : BookD st bs) (h1 : idxE st.ls a = 0) (h2 : idxE st.ls b = 0) {l : List (Nat × Bool)} (hl : l.length < st.ls.length) (hp : Path (bs.map (edOf st)) (idxI st.ls a) l (idxI st.ls b)) :
    alongE st [a, b] = 0 ∧ alongQ st [a, b] = pathQ (bs.map (edOf st)) l := by
  have h := (ChD.start (st := st) (names := [a, b]) (by simp)).step hd (k := 1) (by simp) (pair_ok h1 h2) hl hp
  obtain ⟨e1, e2⟩ := ChD.last (names := [a, b]) h (pair_ok h1 h2)
  refine ⟨e1, ?_⟩
  rw [e2, List.nil_append, List.nil_append, pUp_val hd.ok (fun s hs => by simpa using hp.lt s hs)]
theorem convF_name {n : Int} (h : idxE st.ls a ≠ 0 ∨ idxE st.ls b ≠ 0) : convF st a n b = ⟨0, 0, 4⟩ := by
  have e : convE st a n b = 4 := by
    unfold convE
    rcases idxE_two st.ls a with ha | ha
    · rcases idxE_two st.ls b with hb | hb
      · rcases h with h | h
        · exact absurd ha h
        · exact absurd hb h
      · rw [ha, hb]; rfl
    · rw [ha]; rfl
  unfold convF
  rw [e]; rfl
theorem convE_pair {n : Int} (h1 : idxE st.ls a = 0) (h2 : idxE st.ls b = 0) : convE st a n b = needF (rangeB n) 8 := by
  unfold convE
  rw [h1, h2]
  simp only [firstF]
  split <;> simp_all
theorem convF_range {n : Int} (h1 : idxE st.ls a = 0) (h2 : idxE st.ls b = 0) (hn : n < 0 ∨ 1099511627776 < n) : convF st a n b = ⟨0, 0, 8⟩ := by
  have e : convE st a n b = 8 := by
    rw [convE_pair h1 h2, show rangeB n = false by simp [rangeB]; omega]; rfl
  unfold convF
  rw [e]; rfl
theorem convE_good {n : Int} (h1 : idxE st.ls a = 0) (h2 : idxE st.ls b = 0) (h3 : ¬ n < 0) (h4 : ¬ 1099511627776 < n) : convE st a n b = 0 := by
  rw [convE_pair h1 h2, show rangeB n = true by simp [rangeB]; omega]; rfl
theorem convF_apart {n : Int} (hd : BookD st bs) (h1 : idxE st.ls a = 0) (h2 : idxE st.ls b = 0) (h3 : ¬ n < 0) (h4 : ¬ 1099511627776 < n) (hn : ¬ Conn (bs.map (edOf st)) (idxI st.ls a) (idxI st.ls b)) : convF st a n b = ⟨0, 0, 13⟩ := by
  unfold convF
  rw [if_pos (convE_good h1 h2 h3 h4), pair_apart hd h1 h2 hn]; rfl
theorem convF_zero (hd : BookD st bs) (h1 : idxE st.ls a = 0) (h2 : idxE st.ls b = 0) {l : List (Nat × Bool)} (hl : l.length < st.ls.length) (hp : Path (bs.map (edOf st)) (idxI st.ls a) l (idxI st.ls b)) : convF st a 0 b = ⟨0, 1, 0⟩ := by
  unfold convF
  rw [if_pos (convE_good h1 h2 (by decide) (by decide)), if_pos (pair_path hd h1 h2 hl hp).1, if_pos rfl]
theorem convF_path {m : Nat} (hd : BookD st bs) (h1 : idxE st.ls a = 0) (h2 : idxE st.ls b = 0) (h3 : m ≠ 0) (h4 : m ≤ 1099511627776) {l : List (Nat × Bool)} (hl : l.length < st.ls.length) (hp : Path (bs.map (edOf st)) (idxI st.ls a) l (idxI st.ls b)) :
    convF st a (m : Int) b = fit (sgn false (val ([m] ++ pUp st bs l) ([1] ++ pDn st bs l))) := by
  obtain ⟨e1, e2⟩ := pair_path hd h1 h2 hl hp
  unfold convF
  rw [if_pos (convE_good h1 h2 (by omega) (by omega)), if_pos e1, if_neg (by omega), e2,
    val_append (fun x hx => by simp at hx; omega) (pUp_ones hd.ok).2, pUp_val hd.ok (fun s hs => by simpa using hp.lt s hs)]
  congr 1
  show _ = val [m] [1] * _
  have : val [m] [1] = (m : Rat) := by simp [val, prodN]; grind
  rw [this, Rat.mul_comm]
  rfl
end
attribute [local go_sem] Oper.semAt_some rrV

set_option maxRecDepth 100000 in
set_option maxHeartbeats 1000000 in
theorem rfactor_any (Bk : Nat) (lv bv : Value) (st : St) (bs : List Br) (a b : ByteArray) (w : World) (h : RBk w Bk lv bv st.ls bs) (hbs : bs.length ≤ 64) (hd : BookD st bs) :
    Calls Tryd.prog 42 #[.pointer (some ⟨Bk, 0, none⟩), .string a, .string b] w fun e w' => e = .returned (rrV (factorF st a b)) ∧ Below w.heap.size w w' := by
  have Y := Cel.new w 23 #[.int .i64 0, .int .i64 0]
  have hw0 := below_alloc' w (.cells #[.int .i64 0, .int .i64 0] 23)
  obtain ⟨W, hW⟩ : ∃ W, w.alloc (.cells #[.int .i64 0, .int .i64 0] 23) = W := ⟨_, rfl⟩
  rw [hW] at Y hw0
  have hw1 : Below w.heap.size w (W.alloc (.cells #[.string a, .string b] 9)) := hw0.alloc hw0.size _
  have hc := rchain_any Bk lv bv st bs [a, b] (.slice (some ⟨W.heap.size, 0, none⟩) 2 2) (W.alloc (.cells #[.string a, .string b] 9)) (h.below hw1) hbs hd
    ((Cel.new W 9 #[.string a, .string b]).sl (s := 1) rfl rfl (Nat.le_refl _) (by decide))
  rw [factorF_chain] at hc
  have HC := Lib.hid hc
  have HY := Lib.hid (Y.alloc (.cells #[.string a, .string b] 9))
  have HW1 := Lib.hid hw1
  obtain ⟨r, hr⟩ : ∃ r, factorF st a b = r := ⟨_, rfl⟩
  rw [hr] at HC ⊢
  clear hc Y hw0 hw1 h hd hr
  go_enter Tryd.func42, Tryd.ntmps42
  go_wp2_with fail
  go_fit HC.out
  rintro e w2 ⟨rfl, hb2⟩
  have HB2 := Lib.hid (below_then HW1.out hb2)
  have y := HY.out.below HY.out.lt hb2
  have r0 := y.cell 0 (.int .i64 0) rfl
  have r1 := y.cell 1 (.int .i64 0) rfl
  have g0 := y.frozen 0
  have g1 := y.frozen 1
  have k5 := y.set2 (.int .i64 r.n) (.int .i64 r.d)
  have s0 := k5.cell 0 (.int .i64 r.n) rfl
  have s1 := k5.cell 1 (.int .i64 r.d) rfl
  clear y k5 hb2 HC
  go_wp2
  exact bodyPost_ret (v := .tuple #[.agg #[.int .i64 r.n, .int .i64 r.d], .int .i64 r.e]) (by simp [results, Tryd.results42, go_sem, s0, s1]) rfl
    ⟨rfl, (HB2.out.setCell (p := ⟨w.heap.size, 0, none⟩) (by simp) _).setCell (p := ⟨w.heap.size, 1, none⟩) (by simp) _⟩

/-- What Convert allocates for its fraction. -/
theorem fr_lit (w : World) (m : Nat) : FrQ (((w.alloc (.cells #[.int .u64 (m : Int)] 117)).alloc (.cells #[.int .u64 1] 117)).alloc (.cells #[.bool false, .slice (some ⟨w.heap.size, 0, none⟩) 1 1, .slice (some ⟨w.heap.size + 1, 0, none⟩) 1 1] 150)) w.heap.size (w.heap.size + 1 + 1) false [m] [1] := by
  have h1 := World.ownsRow_lit (base := w.heap.size) (size := 1) (e := 117) w #[.int .u64 (m : Int)] 1 (Nat.le_refl _) (by decide) rfl
  have h2 := World.ownsRow_lit (base := w.heap.size) (size := 1) (e := 117) (w.alloc (.cells #[.int .u64 (m : Int)] 117)) #[.int .u64 1] 1 (by simp) (by decide) rfl
  rw [World.size_alloc] at h2
  refine ⟨_, _, Cel.at _ _ _ _ (by simp), by omega, (h1.alloc _).alloc _, h2.alloc _, fun g e e' => ?_⟩
  simp [Value.ownBlock] at e e'
  omega

set_option maxRecDepth 100000 in
set_option maxHeartbeats 4000000 in
theorem rconvert_any (Bk : Nat) (lv bv : Value) (st : St) (bs : List Br) (a b : ByteArray) (n : Int) (w : World) (h : RBk w Bk lv bv st.ls bs) (hbs : bs.length ≤ 64) (hd : BookD st bs) :
    Calls Tryd.prog 109 #[.pointer (some ⟨Bk, 0, none⟩), .agg #[.string a, .int .i64 n], .string b] w fun e w' => e = .returned (rrV (convF st a n b)) ∧ Below w.heap.size w w' := by
  have Y0 := (Cel.new w 51 #[.string a, .int .i64 n]).alloc (.cells #[.int .i64 0, .int .i64 0] 23)
  have Y := Cel.new (w.alloc (.cells #[.string a, .int .i64 n] 51)) 23 #[.int .i64 0, .int .i64 0]
  simp only [World.size_alloc] at Y
  have hw0 : Below w.heap.size w ((w.alloc (.cells #[.string a, .int .i64 n] 51)).alloc (.cells #[.int .i64 0, .int .i64 0] 23)) := (below_alloc' _ _).alloc (by simp) _
  obtain ⟨W, hW⟩ : ∃ W, (w.alloc (.cells #[.string a, .int .i64 n] 51)).alloc (.cells #[.int .i64 0, .int .i64 0] 23) = W := ⟨_, rfl⟩
  rw [hW] at Y0 Y hw0
  have HW0 := Lib.hid hw0
  have HY0 := Lib.hid Y0
  have HY := Lib.hid Y
  have HR := Lib.hid h
  have HD := Lib.hid hd
  have KA1 := Lib.hid (at_any Bk _ _ st.ls a W (h.below hw0).blk (h.below hw0).lads hd.good.few)
  have KA2 := Lib.hid (at_any Bk _ _ st.ls b W (h.below hw0).blk (h.below hw0).lads hd.good.few)
  have hws := hw0.size
  have a0 := Y0.cell 0 (.string a) rfl
  have a1 := Y0.cell 1 (.int .i64 n) rfl
  have r0 := Y.cell 0 (.int .i64 0) rfl
  have r1 := Y.cell 1 (.int .i64 0) rfl
  have g0 := Y.frozen 0
  have g1 := Y.frozen 1
  have HZ : Hid (∀ (w2 : World) (x y : Int), Below W.heap.size W w2 → ((w2.setCell ⟨w.heap.size + 1, 0, none⟩ (.int .i64 x)).setCell ⟨w.heap.size + 1, 1, none⟩ (.int .i64 y)).cell? ⟨w.heap.size + 1, 0, none⟩ = some (.int .i64 x) ∧
      ((w2.setCell ⟨w.heap.size + 1, 0, none⟩ (.int .i64 x)).setCell ⟨w.heap.size + 1, 1, none⟩ (.int .i64 y)).cell? ⟨w.heap.size + 1, 1, none⟩ = some (.int .i64 y) ∧
      Below w.heap.size w ((w2.setCell ⟨w.heap.size + 1, 0, none⟩ (.int .i64 x)).setCell ⟨w.heap.size + 1, 1, none⟩ (.int .i64 y))) := fun w2 x y hb => by
    have k := (HY.out.below HY.out.lt hb).set2 (.int .i64 x) (.int .i64 y)
    exact ⟨k.cell 0 _ rfl, k.cell 1 _ rfl, ((below_then HW0.out hb).setCell (p := ⟨w.heap.size + 1, 0, none⟩) (by simp) _).setCell (p := ⟨w.heap.size + 1, 1, none⟩) (by simp) _⟩
  obtain ⟨F, hF⟩ : ∃ F, convF st a n b = F := ⟨_, rfl⟩
  have HF := Lib.hid hF
  rw [hF]
  clear h hd Y0 Y hw0 hF
  go_enter Tryd.func109, Tryd.ntmps109
  go_wp2_with fail
  go_fit KA1.out
  rintro e w1 ⟨rfl, rfl⟩
  go_wp2_with fail
  go_fit KA2.out
  rintro e w1 ⟨rfl, rfl⟩
  clear KA1 KA2 a0 hW
  obtain ⟨z0, z1, z2⟩ := HZ.out W 0 0 (Below.refl _ _)
  have HZ2 := Lib.hid z2
  clear z2
  by_cases e1 : idxE st.ls a = 0
  · by_cases e2 : idxE st.ls b = 0
    · rw [atI_yes e1, atI_yes e2]
      have d1 : decide (((idxI st.ls a : Nat) : Int) < 0) = false := decide_eq_false (by omega)
      have d2 : decide (((idxI st.ls b : Nat) : Int) < 0) = false := decide_eq_false (by omega)
      have hI := idxI_lt e1
      have HCR := Lib.hid (fun hn => convF_range (n := n) e1 e2 hn)
      by_cases h3 : n < 0
      · have d3 : decide (n < 0) = true := decide_eq_true h3
        have HX := Lib.hid (HCR.out (.inl h3))
        clear h3 e1 e2 HCR hI
        generalize idxI st.ls a = i1 at *
        generalize idxI st.ls b = i2 at *
        go_wp2
        exact bodyPost_ret (v := .tuple #[.agg #[.int .i64 0, .int .i64 0], .int .i64 8]) (by simp [results, Tryd.results109, go_sem, z0, z1]) rfl
          ⟨by rw [← HF.out, HX.out] <;> rfl, HZ2.out⟩
      · have d3 : decide (n < 0) = false := decide_eq_false h3
        by_cases h4 : 1099511627776 < n
        · have d4 : decide (1099511627776 < n) = true := decide_eq_true h4
          have HX := Lib.hid (HCR.out (.inr h4))
          clear h3 h4 e1 e2 HCR hI
          generalize idxI st.ls a = i1 at *
          generalize idxI st.ls b = i2 at *
          go_wp2
          exact bodyPost_ret (v := .tuple #[.agg #[.int .i64 0, .int .i64 0], .int .i64 8]) (by simp [results, Tryd.results109, go_sem, z0, z1]) rfl
            ⟨by rw [← HF.out, HX.out] <;> rfl, HZ2.out⟩
        · have d4 : decide (1099511627776 < n) = false := decide_eq_false h4
          have KW := Lib.hid (way2_any Bk lv bv st bs (idxI st.ls a) (idxI st.ls b) W (HR.out.below HW0.out) hbs HD.out hI)
          have HAP := Lib.hid (fun hn => convF_apart (n := n) HD.out e1 e2 h3 h4 hn)
          have HZR := Lib.hid (fun l hl hp => convF_zero (l := l) HD.out e1 e2 hl hp)
          have HPA := Lib.hid (fun m l h3 h4 hl hp => convF_path (m := m) (l := l) HD.out e1 e2 h3 h4 hl hp)
          clear HCR hI e1 e2
          generalize idxI st.ls a = i1 at *
          generalize idxI st.ls b = i2 at *
          go_wp2_with fail
          go_fit KW.out
          rintro e w1 ⟨vl, q, rfl, hb1, hq1, hq2⟩
          have HB1 := Lib.hid hb1
          have HQ1 := Lib.hid hq1
          have HQ2 := Lib.hid hq2
          have y := HY.out.below HY.out.lt hb1
          have b0 := y.cell 0 (.int .i64 0) rfl
          have b1 := y.cell 1 (.int .i64 0) rfl
          have f0 := y.frozen 0
          have f1 := y.frozen 1
          have a2 := (HY0.out.below HY0.out.lt hb1).cell 1 (.int .i64 n) rfl
          clear hb1 hq1 hq2 y z0 z1 HZ2 KW a1 r0 r1 g0 g1
          cases q with
          | false =>
            have HX := Lib.hid (HAP.out (HQ2.out rfl))
            obtain ⟨z0, z1, z2⟩ := HZ.out w1 0 0 HB1.out
            have HZ2 := Lib.hid z2
            clear z2
            go_wp2
            exact bodyPost_ret (v := .tuple #[.agg #[.int .i64 0, .int .i64 0], .int .i64 13]) (by simp [results, Tryd.results109, go_sem, z0, z1]) rfl
              ⟨by rw [← HF.out, HX.out] <;> rfl, HZ2.out⟩
          | true =>
            obtain ⟨l, hsl, hp, hlen⟩ := HQ1.out rfl
            by_cases hn : n = 0
            · subst hn
              have HX := Lib.hid (HZR.out l hlen hp)
              obtain ⟨z0, z1, z2⟩ := HZ.out w1 0 1 HB1.out
              have HZ2 := Lib.hid z2
              clear z2 hsl hp hlen
              go_wp2
              exact bodyPost_ret (v := .tuple #[.agg #[.int .i64 0, .int .i64 1], .int .i64 0]) (by simp [results, Tryd.results109, go_sem, z0, z1]) rfl
                ⟨by rw [← HF.out, HX.out] <;> rfl, HZ2.out⟩
            · obtain ⟨m, hm⟩ := Int.eq_ofNat_of_zero_le (show 0 ≤ n by omega)
              subst hm
              have bn : (((m : Nat) : Int) == 0) = false := by rw [beq_eq_false_iff_ne]; exact hn
              have wm := wrapU m (by omega)
              have HX := Lib.hid (HPA.out m l (by omega) (by omega) hlen hp)
              have HLT : Hid (∀ s ∈ l, s.1 < bs.length) := fun s hs => by simpa using hp.lt s hs
              have few := HD.out.good.few
              have hFN := fr_lit w1 m
              have hWV : Below w1.heap.size w1 (((w1.alloc (.cells #[.int .u64 (m : Int)] 117)).alloc (.cells #[.int .u64 1] 117)).alloc (.cells #[.bool false, .slice (some ⟨w1.heap.size, 0, none⟩) 1 1, .slice (some ⟨w1.heap.size + 1, 0, none⟩) 1 1] 150)) := ((below_alloc' _ _).alloc (by simp) _).alloc (by simp; omega) _
              obtain ⟨V, hV⟩ : ∃ V, (((w1.alloc (.cells #[.int .u64 (m : Int)] 117)).alloc (.cells #[.int .u64 1] 117)).alloc (.cells #[.bool false, .slice (some ⟨w1.heap.size, 0, none⟩) 1 1, .slice (some ⟨w1.heap.size + 1, 0, none⟩) 1 1] 150)) = V := ⟨_, rfl⟩
              rw [hV] at hFN hWV
              have KAL := Lib.hid (falong_any Bk lv bv st bs l vl w1.heap.size (w1.heap.size + 1 + 1) false [m] [1] w1 V (HR.out.below (below_then HW0.out HB1.out)) hWV (Nat.le_refl _) HD.out.good HD.out.ok hFN hWV.size (hsl.below hWV) HLT.out (by simp) (by simp) (by omega))
              have HWV := Lib.hid hWV
              have HO := Lib.hid (pUp_ones (st := st) (bs := bs) (l := l) HD.out.ok)
              have HM : Hid (Ones [m]) := fun x hx => by simp at hx; omega
              have H1 : Hid (Ones [1]) := fun x hx => by simp at hx; omega
              obtain ⟨VA, vn, vc, rfl, _⟩ := hsl.1.shape
              clear hsl hp hlen few hFN hWV hn d1 d2 d3 h3 h4 HZR HAP HPA
              go_wp2_with fail
              go_fit KAL.out
              rintro e w4 ⟨rfl, hF4, _, hB4⟩
              have HVX := Lib.hid (HWV.out.trans hB4)
              have HFV := Lib.hid (fvalueQ_any w1.heap.size (w1.heap.size + 1 + 1) false ([m] ++ pUp st bs l) ([1] ++ pDn st bs l) w4 hF4 HVX.out.size (HM.out.app HO.out.1) (H1.out.app HO.out.2))
              rw [← HX.out, HF.out] at HFV
              clear hF4 hB4 KAL hV
              go_wp2_with fail
              go_fit HFV.out
              rintro e w5 ⟨rfl, hb5⟩
              have hbb := below_then HB1.out (HVX.out.trans hb5)
              obtain ⟨z0, z1, z2⟩ := HZ.out w5 F.n F.d hbb
              have y := HY.out.below HY.out.lt hbb
              have c0 := y.cell 0 (.int .i64 0) rfl
              have c1 := y.cell 1 (.int .i64 0) rfl
              have k0 := y.frozen 0
              have k1 := y.frozen 1
              have HZ2 := Lib.hid z2
              clear z2 y hbb hb5 HFV b0 b1 f0 f1
              go_wp2
              exact bodyPost_ret (v := .tuple #[.agg #[.int .i64 F.n, .int .i64 F.d], .int .i64 F.e]) (by simp [results, Tryd.results109, go_sem, z0, z1]) rfl
                ⟨rfl, HZ2.out⟩
    · have HX := Lib.hid (convF_name (st := st) (a := a) (b := b) (n := n) (.inr e2))
      rw [atI_yes e1, (atI_no e2).1]
      have d1 : decide (((idxI st.ls a : Nat) : Int) < 0) = false := decide_eq_false (by omega)
      have d2 : decide (((-1 : Int)) < 0) = true := rfl
      clear e1 e2
      generalize idxI st.ls a = i1 at *
      go_wp2
      exact bodyPost_ret (v := .tuple #[.agg #[.int .i64 0, .int .i64 0], .int .i64 4]) (by simp [results, Tryd.results109, go_sem, z0, z1]) rfl
        ⟨by rw [← HF.out, HX.out] <;> rfl, HZ2.out⟩
  · have HX := Lib.hid (convF_name (st := st) (a := a) (b := b) (n := n) (.inl e1))
    rw [(atI_no e1).1]
    clear e1
    generalize atI st.ls b = z at *
    go_wp2
    exact bodyPost_ret (v := .tuple #[.agg #[.int .i64 0, .int .i64 0], .int .i64 4]) (by simp [results, Tryd.results109, go_sem, z0, z1]) rfl
      ⟨by rw [← HF.out, HX.out] <;> rfl, HZ2.out⟩

theorem conv_isR {st : St} {a b : ByteArray} {n : Int} (h : (convF st a n b).e = 0) : isR (convF st a n b).n (convF st a n b).d = true := by
  by_cases h1 : convE st a n b = 0
  · by_cases h2 : alongE st [a, b] = 0
    · by_cases h3 : n = 0
      · have e : convF st a n b = ⟨0, 1, 0⟩ := by unfold convF; rw [if_pos h1, if_pos h2, if_pos h3]
        rw [e]; rfl
      · have e : convF st a n b = fit (alongQ st [a, b] * (n : Rat)) := by unfold convF; rw [if_pos h1, if_pos h2, if_neg h3]
        rw [e] at h ⊢
        exact (fit_isR h).1
    · have e : convF st a n b = ⟨0, 0, alongE st [a, b]⟩ := by unfold convF; rw [if_pos h1, if_neg h2]
      rw [e] at h; exact absurd h h2
  · have e : convF st a n b = ⟨0, 0, convE st a n b⟩ := by unfold convF; rw [if_neg h1]
    rw [e] at h; exact absurd h h1

set_option maxRecDepth 100000 in
set_option maxHeartbeats 2000000 in
theorem rwhole_any (Bk : Nat) (lv bv : Value) (st : St) (bs : List Br) (a b : ByteArray) (n : Int) (w : World) (h : RBk w Bk lv bv st.ls bs) (hbs : bs.length ≤ 64) (hd : BookD st bs) :
    Calls Tryd.prog 110 #[.pointer (some ⟨Bk, 0, none⟩), .agg #[.string a, .int .i64 n], .string b] w fun e w' => e = .returned (wholeV st a n b) ∧ Below w.heap.size w w' := by
  have Y0 := ((Cel.new w 51 #[.string a, .int .i64 n]).alloc (.cells #[.string ⟨#[]⟩, .int .i64 0] 51)).alloc (.cells #[.int .i64 0, .int .i64 0] 23)
  have Y1 := (Cel.new (w.alloc (.cells #[.string a, .int .i64 n] 51)) 51 #[.string ⟨#[]⟩, .int .i64 0]).alloc (.cells #[.int .i64 0, .int .i64 0] 23)
  have Y2 := Cel.new ((w.alloc (.cells #[.string a, .int .i64 n] 51)).alloc (.cells #[.string ⟨#[]⟩, .int .i64 0] 51)) 23 #[.int .i64 0, .int .i64 0]
  simp only [World.size_alloc] at Y1 Y2
  have hw0 : Below w.heap.size w (((w.alloc (.cells #[.string a, .int .i64 n] 51)).alloc (.cells #[.string ⟨#[]⟩, .int .i64 0] 51)).alloc (.cells #[.int .i64 0, .int .i64 0] 23)) := ((below_alloc' _ _).alloc (by simp) _).alloc (by simp; omega) _
  obtain ⟨W, hW⟩ : ∃ W, ((w.alloc (.cells #[.string a, .int .i64 n] 51)).alloc (.cells #[.string ⟨#[]⟩, .int .i64 0] 51)).alloc (.cells #[.int .i64 0, .int .i64 0] 23) = W := ⟨_, rfl⟩
  rw [hW] at Y0 Y1 Y2 hw0
  have HC := Lib.hid (rconvert_any Bk lv bv st bs a b n W (h.below hw0) hbs hd)
  have HY1 := Lib.hid Y1
  have HY2 := Lib.hid Y2
  have HW0 := Lib.hid hw0
  have a0 := Y0.cell 0 (.string a) rfl
  have a1 := Y0.cell 1 (.int .i64 n) rfl
  have HBD := Lib.hid (conv_bd st a n b)
  have HIR := Lib.hid (fun h => conv_isR (st := st) (a := a) (b := b) (n := n) h)
  have HV := Lib.hid (show wholeV st a n b = if (convF st a n b).e = 0 then
    if isR (convF st a n b).n (convF st a n b).d then .tuple #[.agg #[.string b, .int .i64 ((convF st a n b).n / (convF st a n b).d)], .agg #[.int .i64 ((convF st a n b).n % (convF st a n b).d), .int .i64 (convF st a n b).d], .int .i64 0]
    else .tuple #[.agg #[.string b, .int .i64 0], .agg #[.int .i64 0, .int .i64 0], .int .i64 2]
  else .tuple #[.agg #[.string ⟨#[]⟩, .int .i64 0], .agg #[.int .i64 0, .int .i64 0], .int .i64 (convF st a n b).e] from rfl)
  clear Y0 Y1 Y2 hw0 h hd
  generalize convF st a n b = c at *
  obtain ⟨N, D, E⟩ := c
  simp only at HV HBD HIR
  generalize wholeV st a n b = q at *
  go_enter Tryd.func110, Tryd.ntmps110
  go_wp2_with fail
  go_fit HC.out
  rintro e w1 ⟨rfl, hb1⟩
  have HB1 := Lib.hid (hb1.alloc hb1.size (.cells #[.int .i64 N, .int .i64 D] 23))
  clear a0 a1 hb1 HC hW
  by_cases hE : E = 0
  · subst hE
    have HR := HIR.out rfl
    rw [if_pos rfl, HR, if_pos rfl] at HV
    have HF := Lib.hid (rfloor_any N D (w1.alloc (.cells #[.int .i64 N, .int .i64 D] 23)) HBD.out.1 HBD.out.2)
    rw [floorV_yes HR] at HF
    clear HR HIR
    go_wp2_with fail
    go_fit HF.out
    rintro e w3 ⟨rfl, hb3⟩
    have HB3 := Lib.hid ((below_then HB1.out hb3).alloc (below_then HB1.out hb3).size (.cells #[.int .i64 (N % D), .int .i64 D] 23))
    have y1 := HY1.out.below HY1.out.lt HB3.out
    have y2 := HY2.out.below HY2.out.lt HB3.out
    have s0 := y1.cell 0 (.string ⟨#[]⟩) rfl
    have s1 := y1.cell 1 (.int .i64 0) rfl
    have s2 := y1.frozen 0
    have s3 := y1.frozen 1
    obtain ⟨z0, z1, z2, z3⟩ := box2i y2
    have HY4 := Lib.hid y1
    have HY5 := Lib.hid y2
    have hz3 := (below_then HB1.out hb3).size
    have hzw := HY2.out.lt
    have yc := Cel.new w3 23 #[.int .i64 (N % D), .int .i64 D]
    have c0 := yc.cell 0 (.int .i64 (N % D)) rfl
    have c1 := yc.cell 1 (.int .i64 D) rfl
    have n1 : ¬ w3.heap.size = w.heap.size + 1 := by omega
    have n2 : ¬ w.heap.size + 1 = w3.heap.size := by omega
    have n3 : ¬ w3.heap.size = w.heap.size + 1 + 1 := by omega
    have n4 : ¬ w.heap.size + 1 + 1 = w3.heap.size := by omega
    clear y1 y2 hb3 HF yc
    go_wp2_with fail
    go_region
    go_wp2
    have k4 := (((HY4.out.set2 (.string b) (.int .i64 (N / D))).other (p := ⟨w.heap.size + 1 + 1, 0, none⟩) (by simp) (.int .i64 (N % D))).other (p := ⟨w.heap.size + 1 + 1, 1, none⟩) (by simp) (.int .i64 D))
    have k5 := ((HY5.out.other (p := ⟨w.heap.size + 1, 0, none⟩) (by simp) (.string b)).other (p := ⟨w.heap.size + 1, 1, none⟩) (by simp) (.int .i64 (N / D))).set2 (.int .i64 (N % D)) (.int .i64 D)
    have f0 := k4.cell 0 (.string b) rfl
    have f1 := k4.cell 1 (.int .i64 (N / D)) rfl
    have f2 := k5.cell 0 (.int .i64 (N % D)) rfl
    have f3 := k5.cell 1 (.int .i64 D) rfl
    exact bodyPost_ret (v := .tuple #[.agg #[.string b, .int .i64 (N / D)], .agg #[.int .i64 (N % D), .int .i64 D], .int .i64 0]) (by simp only [results, Tryd.results110]; simp only [go_sem]; simp [go_sem, f0, f1, f2, f3]) rfl
      ⟨by rw [HV.out] <;> rfl, below_drew ((((((below_then HW0.out HB3.out).setCell (p := ⟨w.heap.size + 1, 0, none⟩) (by simp) _).setCell (p := ⟨w.heap.size + 1, 1, none⟩) (by simp) _).setCell (p := ⟨w.heap.size + 1 + 1, 0, none⟩) (by simp; omega) _).setCell (p := ⟨w.heap.size + 1 + 1, 1, none⟩) (by simp; omega) _))⟩
  · rw [if_neg hE] at HV
    have dE : (E == 0) = false := beq_eq_false_iff_ne.2 hE
    have y1 := HY1.out.below HY1.out.lt HB1.out
    have y2 := HY2.out.below HY2.out.lt HB1.out
    have s0 := y1.cell 0 (.string ⟨#[]⟩) rfl
    have s1 := y1.cell 1 (.int .i64 0) rfl
    have s2 := y1.frozen 0
    have s3 := y1.frozen 1
    obtain ⟨z0, z1, z2, z3⟩ := box2i y2
    have k4 := (((y1.set2 (.string ⟨#[]⟩) (.int .i64 0)).other (p := ⟨w.heap.size + 1 + 1, 0, none⟩) (by simp) (.int .i64 0)).other (p := ⟨w.heap.size + 1 + 1, 1, none⟩) (by simp) (.int .i64 0))
    have k5 := ((y2.other (p := ⟨w.heap.size + 1, 0, none⟩) (by simp) (.string ⟨#[]⟩)).other (p := ⟨w.heap.size + 1, 1, none⟩) (by simp) (.int .i64 0)).set2 (.int .i64 0) (.int .i64 0)
    have f0 := k4.cell 0 (.string ⟨#[]⟩) rfl
    have f1 := k4.cell 1 (.int .i64 0) rfl
    have f2 := k5.cell 0 (.int .i64 0) rfl
    have f3 := k5.cell 1 (.int .i64 0) rfl
    clear y1 y2 k4 k5 hE HIR
    go_wp2
    exact bodyPost_ret (v := .tuple #[.agg #[.string ⟨#[]⟩, .int .i64 0], .agg #[.int .i64 0, .int .i64 0], .int .i64 E]) (by simp [results, Tryd.results110, go_sem, f0, f1, f2, f3]) rfl
      ⟨by rw [HV.out] <;> rfl, ((((below_then HW0.out HB1.out).setCell (p := ⟨w.heap.size + 1, 0, none⟩) (by simp) _).setCell (p := ⟨w.heap.size + 1, 1, none⟩) (by simp) _).setCell (p := ⟨w.heap.size + 1 + 1, 0, none⟩) (by simp; omega) _).setCell (p := ⟨w.heap.size + 1 + 1, 1, none⟩) (by simp; omega) _⟩

theorem wholeV_form (st : St) (a : ByteArray) (n : Int) (b : ByteArray) : ∃ nm q r d E, wholeV st a n b = .tuple #[.agg #[.string nm, .int .i64 q], .agg #[.int .i64 r, .int .i64 d], .int .i64 E] := by
  unfold wholeV
  split
  · split
    · exact ⟨_, _, _, _, _, rfl⟩
    · exact ⟨_, _, _, _, _, rfl⟩
  · exact ⟨_, _, _, _, _, rfl⟩

set_option maxRecDepth 100000 in
set_option maxHeartbeats 2000000 in
theorem converts_any (Bk bm : Nat) (lv gv fv : Value) (Bk' : Nat) (lv' bv' : Value) (st : St) (bs : List Br) (a b : ByteArray) (n : Int) (w : World) (hb : BookV w Bk bm lv gv fv st) (hg : Good st) (hz : Zw w) (hr : RBk w Bk' lv' bv' st.ls bs) (hbs : bs.length ≤ 64) (hd : BookD st bs) :
    Calls Tryd.prog 43 #[.pointer (some ⟨Bk, 0, none⟩), .pointer (some ⟨Bk', 0, none⟩), .agg #[.string a, .int .i64 n], .string b] w fun e w' => e = .returned (.bool true) ∧ Below w.heap.size w w' := by
  have Y0 := Cel.new w 51 #[.string a, .int .i64 n]
  have hw0 := below_alloc' w (.cells #[.string a, .int .i64 n] 51)
  have HW0 := Lib.hid hw0
  have HY0 := Lib.hid Y0
  have a0 := Y0.cell 0 (.string a) rfl
  have a1 := Y0.cell 1 (.int .i64 n) rfl
  have KC := Lib.hid (fun w' (h : Below w.heap.size w w') => convert_any Bk bm lv gv fv st a b n w' (hb.below h) hg (hz.below h))
  have KRC := Lib.hid (fun w' (h : Below w.heap.size w w') => rconvert_any Bk' lv' bv' st bs a b n w' (hr.below h) hbs hd)
  have KH := Lib.hid (fun w' (h : Below w.heap.size w w') => whole_any Bk bm lv gv fv st a b n w' (hb.below h) hg (hz.below h))
  have KRH := Lib.hid (fun w' (h : Below w.heap.size w w') => rwhole_any Bk' lv' bv' st bs a b n w' (hr.below h) hbs hd)
  obtain ⟨nm, q, r, d, E, hV⟩ := wholeV_form st a n b
  rw [hV] at KH KRH
  clear hV
  generalize convF st a n b = F at *
  clear hb hg hz hr hd Y0 hw0
  go_enter Tryd.func43, Tryd.ntmps43
  go_wp2_with fail
  go_fit (KC.out _ HW0.out)
  rintro e w1 ⟨rfl, hb1⟩
  have HX1 := Lib.hid (Cel.new w1 23 #[.int .i64 F.n, .int .i64 F.d])
  have HB1 := Lib.hid (hb1.alloc hb1.size (.cells #[.int .i64 F.n, .int .i64 F.d] 23))
  clear hb1 a0 a1
  have a0 := (HY0.out.below HY0.out.lt HB1.out).cell 0 (.string a) rfl
  have a1 := (HY0.out.below HY0.out.lt HB1.out).cell 1 (.int .i64 n) rfl
  go_wp2_with fail
  go_fit (KRC.out _ (below_then HW0.out HB1.out))
  rintro e w2 ⟨rfl, hb2⟩
  have HX2 := Lib.hid (Cel.new w2 23 #[.int .i64 F.n, .int .i64 F.d])
  have HX1b := Lib.hid (HX1.out.below HX1.out.lt (hb2.alloc hb2.size (.cells #[.int .i64 F.n, .int .i64 F.d] 23)))
  have HB2 := Lib.hid (below_then HB1.out (hb2.alloc hb2.size (.cells #[.int .i64 F.n, .int .i64 F.d] 23)))
  clear hb2 a0 a1
  have a0 := (HY0.out.below HY0.out.lt HB2.out).cell 0 (.string a) rfl
  have a1 := (HY0.out.below HY0.out.lt HB2.out).cell 1 (.int .i64 n) rfl
  have p0 := HX1b.out.cell 0 (.int .i64 F.n) rfl
  have p1 := HX1b.out.cell 1 (.int .i64 F.d) rfl
  have q0 := HX2.out.cell 0 (.int .i64 F.n) rfl
  have q1 := HX2.out.cell 1 (.int .i64 F.d) rfl
  go_wp2_with fail
  go_fit (KH.out _ (below_then HW0.out HB2.out))
  rintro e w3 ⟨rfl, hb3⟩
  have ha3 := ((Below.refl w3.heap.size w3).alloc (Nat.le_refl _) (.cells #[.string nm, .int .i64 q] 51)).alloc (by simp) (.cells #[.int .i64 r, .int .i64 d] 23)
  have HX3 := Lib.hid ((Cel.new w3 51 #[.string nm, .int .i64 q]).alloc (.cells #[.int .i64 r, .int .i64 d] 23))
  have HX4 := Lib.hid (Cel.new (w3.alloc (.cells #[.string nm, .int .i64 q] 51)) 23 #[.int .i64 r, .int .i64 d])
  have HB3 := Lib.hid (below_then HB2.out (below_then hb3 ha3))
  clear hb3 ha3 a0 a1 p0 p1 q0 q1
  have a0 := (HY0.out.below HY0.out.lt HB3.out).cell 0 (.string a) rfl
  have a1 := (HY0.out.below HY0.out.lt HB3.out).cell 1 (.int .i64 n) rfl
  go_wp2_with fail
  go_fit (KRH.out _ (below_then HW0.out HB3.out))
  rintro e w4 ⟨rfl, hb4⟩
  have ha4 := ((Below.refl w4.heap.size w4).alloc (Nat.le_refl _) (.cells #[.string nm, .int .i64 q] 51)).alloc (by simp) (.cells #[.int .i64 r, .int .i64 d] 23)
  have HX5 := Lib.hid ((Cel.new w4 51 #[.string nm, .int .i64 q]).alloc (.cells #[.int .i64 r, .int .i64 d] 23))
  have HX6 := Lib.hid (Cel.new (w4.alloc (.cells #[.string nm, .int .i64 q] 51)) 23 #[.int .i64 r, .int .i64 d])
  have x3 := HX3.out.below HX3.out.lt (below_then hb4 ha4)
  have x4 := HX4.out.below HX4.out.lt (below_then hb4 ha4)
  have HB4 := Lib.hid (below_then HW0.out (below_then HB3.out (below_then hb4 ha4)))
  have m0 := x3.cell 0 (.string nm) rfl
  have m1 := x3.cell 1 (.int .i64 q) rfl
  have m2 := x4.cell 0 (.int .i64 r) rfl
  have m3 := x4.cell 1 (.int .i64 d) rfl
  have o0 := HX5.out.cell 0 (.string nm) rfl
  have o1 := HX5.out.cell 1 (.int .i64 q) rfl
  have o2 := HX6.out.cell 0 (.int .i64 r) rfl
  have o3 := HX6.out.cell 1 (.int .i64 d) rfl
  simp only [World.size_alloc] at m0 m1 m2 m3 o0 o1 o2 o3
  clear hb4 ha4 x3 x4 a0 a1
  go_wp2
  go_ret
  exact ⟨rfl, HB4.out⟩
end Go.Proofs.YtmibpncmebhbjaaDoor
