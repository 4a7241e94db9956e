/- The reference's Chain: the walk. -/
import Derived.Test.YtmibpncmebhbjaaDoorCha1
import Derived.Test.YtmibpncmebhbjaaDoorNam2
namespace Go.Proofs.YtmibpncmebhbjaaDoor
open Go Go.RowKit Go.Shelf
attribute [local go_sem] Oper.semAt_some rrV

/-- What way leaves, one form. -/
theorem way2_any (Bk : Nat) (lv bv : Value) (st : St) (bs : List Br) (f t : Nat) (w : World) (h : RBk w Bk lv bv st.ls bs) (hbs : bs.length ≤ 64) (hd : BookD st bs) (hf : f < st.ls.length) :
    Calls Tryd.prog 111 #[.pointer (some ⟨Bk, 0, none⟩), .int .i64 (f : Int), .int .i64 (t : Int)] w fun e w' => ∃ (v : Value) (q : Bool), e = .returned (.tuple #[v, .bool q]) ∧ Below w.heap.size w w' ∧
      (q = true → ∃ l, SlT w' 169 2 v (stepsV l) ∧ Path (bs.map (edOf st)) f l t ∧ l.length < st.ls.length) ∧ (q = false → ¬ Conn (bs.map (edOf st)) f t) := by
  refine (way_any Bk lv bv st bs f t w h hd.good.few hbs hd.ok hf).mono ?_
  rintro e w' ⟨hb, h⟩
  rcases h with ⟨l, v, rfl, h1, h2, h3⟩ | ⟨rfl, h1⟩
  · exact ⟨v, true, rfl, hb, fun _ => ⟨l, h1, h2, h3⟩, fun e => absurd e (by decide)⟩
  · exact ⟨_, false, rfl, hb, fun e => absurd e (by decide), fun _ => h1⟩
theorem chainF_none (st : St) {names : List ByteArray} (h : names.length = 0) : chainF st names = ⟨0, 0, 2⟩ := by
  unfold chainF; rw [h]; rfl
theorem chainF_many (st : St) {names : List ByteArray} (h : 64 < names.length) : chainF st names = ⟨0, 0, 3⟩ := by
  have e : chainE names.length = 3 := by unfold chainE; rw [if_neg (by omega), if_neg (by omega)]
  unfold chainF; rw [e]; rfl
theorem chainF_bad (st : St) {names : List ByteArray} (h : 0 < names.length) (h2 : names.length ≤ 64) {E : Int} (he : alongE st names = E) (hE : E ≠ 0) : chainF st names = ⟨0, 0, E⟩ := by
  have e : chainE names.length = 0 := by unfold chainE; rw [if_neg (by omega), if_pos h2]
  unfold chainF
  rw [e, if_pos rfl, he, if_neg hE]
theorem chainF_good (st : St) {names : List ByteArray} (h : 0 < names.length) (h2 : names.length ≤ 64) (he : alongE st names = 0) : chainF st names = fit (alongQ st names) := by
  have e : chainE names.length = 0 := by unfold chainE; rw [if_neg (by omega), if_pos h2]
  unfold chainF
  rw [e, if_pos rfl, he, if_pos rfl]

set_option maxRecDepth 100000 in
set_option maxHeartbeats 4000000 in
theorem rchain_any (Bk : Nat) (lv bv : Value) (st : St) (bs : List Br) (names : List ByteArray) (v : Value) (w : World) (h : RBk w Bk lv bv st.ls bs) (hbs : bs.length ≤ 64) (hd : BookD st bs) (hv : Sl w 1 v (namesV names)) :
    Calls Tryd.prog 45 #[.pointer (some ⟨Bk, 0, none⟩), v] w fun e w' => e = .returned (rrV (chainF st names)) ∧ Below w.heap.size w w' := by
  obtain ⟨A, c, rfl, hlc, hcm, hcell⟩ := hv.open1
  simp only [namesV, List.length_map] at hlc hcell ⊢
  have HN : Hid (∀ wr k (h : k < names.length), Below w.heap.size w wr → ∃ ad, A = some ad ∧ wr.cell? (ad.add k) = some (.string names[k])) := by
    intro wr k h hB
    obtain ⟨ad, e, h1⟩ := hcell k _ (by rw [List.getElem?_map, List.getElem?_eq_getElem h]; rfl)
    exact ⟨ad, e, below_cell hB h1⟩
  have KAT : Hid (∀ nm W, Below w.heap.size w W → Calls Tryd.prog 107 #[.pointer (some ⟨Bk, 0, none⟩), .string nm] W fun e w' => e = .returned (.int .i64 (atI st.ls nm)) ∧ W = w') := fun nm W hw =>
    at_any Bk _ _ st.ls nm W (h.below hw).blk (h.below hw).lads hd.good.few
  have HR := Lib.hid h
  have HD := Lib.hid hd
  have Y := Cel.new w 23 #[.int .i64 0, .int .i64 0]
  have hw0 := below_alloc' w (.cells #[.int .i64 0, .int .i64 0] 23)
  obtain ⟨W, hW⟩ : ∃ W, w.alloc (.cells #[.int .i64 0, .int .i64 0] 23) = W := ⟨_, rfl⟩
  rw [hW] at Y hw0
  have HW0 := Lib.hid hw0
  have HY := Lib.hid Y
  obtain ⟨F, hF⟩ : ∃ F, chainF st names = F := ⟨_, rfl⟩
  have HF := Lib.hid hF
  rw [hF]
  have hws := hw0.size
  clear h hd hcell Y hw0 hF hv
  go_enter Tryd.func45, Tryd.ntmps45
  have x0 := HY.out.cell 0 (.int .i64 0) rfl
  have x1 := HY.out.cell 1 (.int .i64 0) rfl
  have f0 := HY.out.frozen 0
  have f1 := HY.out.frozen 1
  by_cases h0 : names.length = 0
  · have HX := Lib.hid (chainF_none st h0)
    have b0 : ((names.length : Int) == 0) = true := by rw [h0]; rfl
    have k5 := HY.out.set2 (.int .i64 0) (.int .i64 0)
    have s0 := k5.cell 0 (.int .i64 0) rfl
    have s1 := k5.cell 1 (.int .i64 0) rfl
    clear h0 k5 HN KAT
    go_wp2
    exact bodyPost_ret (v := .tuple #[.agg #[.int .i64 0, .int .i64 0], .int .i64 2]) (by simp [results, Tryd.results45, go_sem, s0, s1]) rfl
      ⟨by rw [← HF.out, HX.out] <;> rfl, (HW0.out.setCell (p := ⟨w.heap.size, 0, none⟩) (by simp) _).setCell (p := ⟨w.heap.size, 1, none⟩) (by simp) _⟩
  · have b0 : ((names.length : Int) == 0) = false := by rw [beq_eq_false_iff_ne]; omega
    by_cases h1 : 64 < names.length
    · have HX := Lib.hid (chainF_many st h1)
      have d1 : decide ((64 : Int) < (names.length : Int)) = true := decide_eq_true (by omega)
      have k5 := HY.out.set2 (.int .i64 0) (.int .i64 0)
      have s0 := k5.cell 0 (.int .i64 0) rfl
      have s1 := k5.cell 1 (.int .i64 0) rfl
      clear h0 k5 HN KAT h1
      go_wp2
      exact bodyPost_ret (v := .tuple #[.agg #[.int .i64 0, .int .i64 0], .int .i64 3]) (by simp [results, Tryd.results45, go_sem, s0, s1]) rfl
        ⟨by rw [← HF.out, HX.out] <;> rfl, (HW0.out.setCell (p := ⟨w.heap.size, 0, none⟩) (by simp) _).setCell (p := ⟨w.heap.size, 1, none⟩) (by simp) _⟩
    · have d1 : decide ((64 : Int) < (names.length : Int)) = false := decide_eq_false (by omega)
      have HBAD := Lib.hid (fun E he hE => chainF_bad st (names := names) (E := E) (by omega) (by omega) he hE)
      have HGO := Lib.hid (fun he => chainF_good st (names := names) (by omega) (by omega) he)
      have hp0 : 0 < names.length := by omega
      have hp1 : names.length ≤ 64 := by omega
      clear h0 h1 hlc
      go_wp2
      clear b0 d1
      go_loopw [6] (fun i wr => ∃ k : Nat, i = .int .i64 k ∧ k ≤ names.length ∧ Hid (∀ j (hj : j < names.length), j < k → idxE st.ls names[j] = 0) ∧ W = wr) (fun i _ => names.length - (intOf i).toNat)
      case atStart => exact ⟨0, rfl, by omega, fun j hj h => absurd h (by omega), rfl⟩
      case round =>
        obtain ⟨k, rfl, hk, HO, rfl⟩ := hrel
        by_cases hlt : k < names.length
        · obtain ⟨ad, rfl, e1⟩ := HN.out W k hlt HW0.out
          have hc := KAT.out names[k] W HW0.out
          by_cases hz : idxE st.ls names[k] = 0
          · rw [atI_yes hz] at hc
            have d2 : decide (((idxI st.ls names[k] : Nat) : Int) < 0) = false := decide_eq_false (by omega)
            have HO2 : Hid (∀ j (hj : j < names.length), j < k + 1 → idxE st.ls names[j] = 0) := fun j hj h => by
              by_cases e : j = k
              · subst e; exact hz
              · exact HO.out j hj (by omega)
            clear hz
            generalize idxI st.ls names[k] = z at *
            generalize names[k] = nm at *
            have HC := Lib.hid hc
            clear hc
            go_wp2_with fail
            go_fit HC.out
            rintro e w1 ⟨rfl, rfl⟩
            go_wp2
            go_roundw
            case rel => exact ⟨k + 1, by go_num, hlt, HO2, by first | rfl | trivial⟩
            case measure => simp [intOf]; omega
          · have HX := Lib.hid (HBAD.out 4 (alongE_not (List.getElem_mem hlt) hz) (by decide))
            rw [(atI_no hz).1] at hc
            have d2 : decide ((-1 : Int) < 0) = true := rfl
            clear hz
            generalize names[k] = nm at *
            have HC := Lib.hid hc
            have k5 := HY.out.set2 (.int .i64 0) (.int .i64 0)
            have s0 := k5.cell 0 (.int .i64 0) rfl
            have s1 := k5.cell 1 (.int .i64 0) rfl
            clear hc k5
            go_wp2_with fail
            go_fit HC.out
            rintro e w1 ⟨rfl, rfl⟩
            go_wp2
            exact bodyPost_ret (v := .tuple #[.agg #[.int .i64 0, .int .i64 0], .int .i64 4]) (by simp [results, Tryd.results45, go_sem, s0, s1]) rfl
              ⟨by rw [← HF.out, HX.out] <;> rfl, (HW0.out.setCell (p := ⟨w.heap.size, 0, none⟩) (by simp) _).setCell (p := ⟨w.heap.size, 1, none⟩) (by simp) _⟩
        · have HOK : Hid (∀ nm ∈ names, idxE st.ls nm = 0) := fun nm hm => by
            obtain ⟨j, hj, rfl⟩ := List.mem_iff_getElem.1 hm
            exact HO.out j hj (by omega)
          obtain rfl : k = names.length := by omega
          clear HO hk hlt
          go_wp2
          have HB0 := Lib.hid (HW0.out.alloc hws (.cells #[.bool false, .slice none 0 0, .slice none 0 0] 150))
          have HFN := Lib.hid (fr_new W).fro
          obtain ⟨V, hV⟩ : ∃ V, W.alloc (.cells #[.bool false, .slice none 0 0, .slice none 0 0] 150) = V := ⟨_, rfl⟩
          have HWV : Hid (Below W.heap.size W V) := by rw [← hV]; exact below_alloc' _ _
          have hvs : V.heap.size = W.heap.size + 1 := by rw [← hV]; simp
          rw [hV] at HB0 HFN
          obtain ⟨Bf, hBf⟩ : ∃ Bf, W.heap.size = Bf := ⟨_, rfl⟩
          rw [hBf] at HFN HWV hvs hws ⊢
          try rw [hV]
          clear hV
          go_loopw [8] (fun i wr => ∃ (k : Nat) (U D : List Nat), i = .int .i64 k ∧ k ≤ names.length ∧ Hid (ChD st names k U D) ∧ Hid (FrQ wr Bf Bf false U D) ∧ Hid (Below Bf W wr)) (fun i _ => names.length - (intOf i).toNat)
          case atStart => exact ⟨1, [], [], rfl, hp0, ChD.start hp0, HFN.out, HWV.out⟩
          case round =>
            obtain ⟨k, U, D, rfl, hk, HC, HFr, HB⟩ := hrel
            have HBw := Lib.hid (HW0.out.trans (HB.out.mono hws))
            by_cases hlt : k < names.length
            · obtain ⟨K, hKk⟩ : ∃ K, K = k - 1 := ⟨_, rfl⟩
              have hpos := HC.out.pos
              have hK1 : K < names.length := by omega
              have hwr : IntKind.i64.wrap ((k : Int) - 1) = (K : Int) := by rw [show (k : Int) - 1 = (K : Int) by omega]; exact IntWalk.i64_in _ (by omega)
              have HST : Hid (∀ l, l.length < st.ls.length → Path (bs.map (edOf st)) (idxI st.ls names[K]) l (idxI st.ls names[k]) → ChD st names (k + 1) (U ++ pUp st bs l) (D ++ pDn st bs l)) := by
                subst hKk
                exact fun l hl hp => HC.out.step HD.out hlt HOK.out hl hp
              have HAP : Hid (¬ Conn (bs.map (edOf st)) (idxI st.ls names[K]) (idxI st.ls names[k]) → alongE st names = 13) := by
                subst hKk
                exact fun hn => HC.out.apart HD.out hlt HOK.out hn
              have HLU := Lib.hid (show U.length ≤ 100000 ∧ D.length ≤ 100000 by have := HC.out.lu; have := HC.out.ld; omega)
              obtain ⟨ad, rfl, e1⟩ := HN.out wr K hK1 HBw.out
              obtain ⟨ad', h', e2⟩ := HN.out wr k hlt HBw.out
              cases h'
              have hI1 := idxI_lt (HOK.out _ (List.getElem_mem hK1))
              have KA1 : Hid (∀ W, Below w.heap.size w W → Calls Tryd.prog 107 #[.pointer (some ⟨Bk, 0, none⟩), .string names[K]] W fun e w' => e = .returned (.int .i64 (idxI st.ls names[K] : Nat)) ∧ W = w') := fun W hw => by
                have := KAT.out names[K] W hw; rwa [atI_yes (HOK.out _ (List.getElem_mem hK1))] at this
              have KA2 : Hid (∀ W, Below w.heap.size w W → Calls Tryd.prog 107 #[.pointer (some ⟨Bk, 0, none⟩), .string names[k]] W fun e w' => e = .returned (.int .i64 (idxI st.ls names[k] : Nat)) ∧ W = w') := fun W hw => by
                have := KAT.out names[k] W hw; rwa [atI_yes (HOK.out _ (List.getElem_mem hlt))] at this
              generalize hi1 : idxI st.ls names[K] = i1 at *
              generalize hi2 : idxI st.ls names[k] = i2 at *
              have KW := Lib.hid (fun w' (hb : Below w.heap.size w w') => way2_any Bk lv bv st bs i1 i2 w' (HR.out.below hb) hbs HD.out hI1)
              clear hi1 hi2
              generalize names[K] = n1 at *
              generalize names[k] = n2 at *
              have HX2 : Hid (∀ w', Below wr.heap.size wr w' → w'.cell? (ad.add K) = some (.string n1) ∧ w'.cell? (ad.add k) = some (.string n2)) := fun w' hb => ⟨below_cell hb e1, below_cell hb e2⟩
              have k1 : (0 : Int) ≤ (K : Int) := by omega
              have k2 : (K : Int) < (names.length : Int) := by omega
              have k3 : (0 : Int) ≤ (k : Int) := by omega
              have k4 : (k : Int) < (names.length : Int) := by omega
              have hbz := HB.out.size
              rw [hBf] at hbz
              clear hKk hI1
              go_upto_region 14 with fail
              go_cut [9, 10] (fun t9 t10 wx => ∃ (Wx : World) (T9 : Value) (q : Bool), Wx = wx ∧ T9 = t9 ∧ t10 = .bool q ∧ Hid (Below Bf W wx) ∧ Hid (FrQ wx Bf Bf false U D) ∧ Hid (q = true → ∃ l, SlT wx 169 2 t9 (stepsV l) ∧ Path (bs.map (edOf st)) i1 l i2 ∧ l.length < st.ls.length) ∧ Hid (q = false → ¬ Conn (bs.map (edOf st)) i1 i2))
              case first =>
                go_region_held3 (fun w' => w'.cell? (ad.add K) = some (.string n1) ∧ w'.cell? (ad.add k) = some (.string n2))
                  (first | exact ⟨e1, e2⟩ | exact ⟨g1, g2⟩ | go_keep)
                  (first
                  | (go_at_call_of 107 (Value.string n1); refine (KA1.out wr.drew (below_drew HBw.out)).mono ?_; rintro e w1 ⟨rfl, rfl⟩)
                  | (go_at_call_of 107 (Value.string n2); refine (KA2.out wr.drew (below_drew HBw.out)).mono ?_; rintro e w1 ⟨rfl, rfl⟩)
                  | (go_at_call 111; refine (KW.out wr.drew (below_drew HBw.out)).mono ?_; rintro e w2 ⟨vl, q, rfl, hb2, hq1, hq2⟩; have HB2 := Lib.hid (show Below wr.heap.size wr w2 from below_undrew hb2); have HQ1 := Lib.hid hq1; have HQ2 := Lib.hid hq2; obtain ⟨g1, g2⟩ := HX2.out w2 HB2.out; clear hb2 hq1 hq2))
                all_goals (
                  go_wp2
                  go_meet
                  exact ⟨_, _, q, rfl, rfl, rfl, HB.out.trans (HB2.out.mono hbz), HFr.out.below HB2.out, HQ1.out, HQ2.out⟩)
              case rest =>
                obtain ⟨Wx, T9, q, rfl, rfl, rfl, HB3, HF3, HQ1, HQ2⟩ := hcut
                clear e1 e2 HX2 KW KA1 KA2 hbz
                cases q with
                | true =>
                  obtain ⟨l, hsl, hp, hlen⟩ := HQ1.out rfl
                  have HLT : Hid (∀ s ∈ l, s.1 < bs.length) := fun s hs => by simpa using hp.lt s hs
                  have few := HD.out.good.few
                  have HS2 := Lib.hid (HST.out l hlen hp)
                  have hwl : Bf ≤ Wx.heap.size := by obtain ⟨_, _, hC, _⟩ := HF3.out; exact Nat.le_of_lt hC.lt
                  have KAL := Lib.hid (falong_any Bk lv bv st bs l T9 Bf Bf false U D W Wx (HR.out.below HW0.out) (by rw [hBf]; exact HB3.out) (by omega) HD.out.good HD.out.ok HF3.out hwl hsl HLT.out HLU.out.1 HLU.out.2 (by omega))
                  obtain ⟨VA, vn, vc, rfl, _⟩ := hsl.1.shape
                  clear hsl hp hlen few HST HAP HQ1 HQ2 hwl
                  go_wp2_with fail
                  go_fit KAL.out
                  rintro e w4 ⟨rfl, hF4, _, hB4⟩
                  have HF4 := Lib.hid hF4
                  have HB4 := Lib.hid (HB3.out.trans hB4)
                  clear hF4 hB4
                  go_wp2
                  go_roundw
                  case rel => exact ⟨k + 1, _, _, by go_num, hlt, HS2.out, HF4.out, HB4.out⟩
                  case measure => simp [intOf]; omega
                | false =>
                  have HX := Lib.hid (HBAD.out 13 (HAP.out (HQ2.out rfl)) (by decide))
                  have y := HY.out.below HY.out.lt (by rw [hBf]; exact HB3.out)
                  have r0 := y.cell 0 (.int .i64 0) rfl
                  have r1 := y.cell 1 (.int .i64 0) rfl
                  have g0 := y.frozen 0
                  have g1 := y.frozen 1
                  have k5 := y.set2 (.int .i64 0) (.int .i64 0)
                  have s0 := k5.cell 0 (.int .i64 0) rfl
                  have s1 := k5.cell 1 (.int .i64 0) rfl
                  have HBX := Lib.hid (HW0.out.trans (HB3.out.mono hws))
                  clear y k5
                  go_wp2
                  exact bodyPost_ret (v := .tuple #[.agg #[.int .i64 0, .int .i64 0], .int .i64 13]) (by simp [results, Tryd.results45, go_sem, s0, s1]) rfl
                    ⟨by rw [← HF.out, HX.out] <;> rfl, (HBX.out.setCell (p := ⟨w.heap.size, 0, none⟩) (by simp) _).setCell (p := ⟨w.heap.size, 1, none⟩) (by simp) _⟩
            · obtain rfl : k = names.length := by omega
              have HE := Lib.hid (HC.out.last HOK.out)
              have HX := Lib.hid (HGO.out HE.out.1)
              have hz := HB.out.size
              have hfl : Bf ≤ wr.heap.size := by obtain ⟨_, _, hC, _⟩ := HFr.out; exact Nat.le_of_lt hC.lt
              have hfv := fvalueQ_any Bf Bf false U D wr HFr.out hfl HC.out.on HC.out.od
              rw [show sgn false (val U D) = alongQ st names by rw [HE.out.2]; rfl, ← HX.out, HF.out] at hfv
              have HFV := Lib.hid hfv
              clear hfv
              go_wp2_with fail
              go_fit HFV.out
              rintro e w5 ⟨rfl, hb5⟩
              have HB5 := Lib.hid (HB.out.trans hb5)
              have y := HY.out.below HY.out.lt (by rw [hBf]; exact HB5.out)
              have r0 := y.cell 0 (.int .i64 0) rfl
              have r1 := y.cell 1 (.int .i64 0) rfl
              have g0 := y.frozen 0
              have g1 := y.frozen 1
              have k5 := y.set2 (.int .i64 F.n) (.int .i64 F.d)
              have s0 := k5.cell 0 (.int .i64 F.n) rfl
              have s1 := k5.cell 1 (.int .i64 F.d) rfl
              have HBX := Lib.hid (HW0.out.trans (HB5.out.mono hws))
              clear y k5 hb5 HFV
              go_wp2
              exact bodyPost_ret (v := .tuple #[.agg #[.int .i64 F.n, .int .i64 F.d], .int .i64 F.e]) (by simp [results, Tryd.results45, go_sem, s0, s1]) rfl
                ⟨rfl, (HBX.out.setCell (p := ⟨w.heap.size, 0, none⟩) (by simp) _).setCell (p := ⟨w.heap.size, 1, none⟩) (by simp) _⟩
end Go.Proofs.YtmibpncmebhbjaaDoor
