/- Walks of the reference: solved. Conditions: those stated. -/
import Derived.Test.YtdmcopjbckelmaaGreatDoorZG2
namespace Go.Proofs.YtdmcopjbckelmaaGreatDoor
open Go Go.RowKit Go.Shelf
attribute [local go_sem] Oper.semAt_some

theorem infoBo : (Tryz.prog.info? 153).map (fun i => (i.zero, i.size, i.bytes)) = some (some (.agg #[.int .i64 0, .int .i64 0, .int .i64 0]), 3, 24) := by kernel_rfl
theorem appBo {ops : Array Oper} {rest : List Oper} {o : Oper} {a : Act} {Q : Exit → Act → World → Prop} {w : World} (s x : Operand) (hgd : o.guard = none) (ho : o.op = .call { callee := .builtin .append, args := #[s, x], argTypes := #[151, 151] })
    {base n : Nat} {v vx : Value} {xs news : List Value} (hs : a.eval s = v) (hx : a.eval x = vx) (hown : w.ownsRow base 153 3 v n xs) (hr : Sl w 3 vx news) (h1 : ∀ u ∈ news, u.oneCell' = true)
    {N : Nat} (hN : n * 3 + news.length = N * 3) (hb : N ≤ 1048576) (hbase : base ≤ w.heap.size)
    (h : ∀ A c w', Appended base 153 3 v xs news w w' A N c → wpList Tryz.prog ops Q rest (a.put o.dst (.slice A N c)) w') : wpList Tryz.prog ops Q (o :: rest) a w := by
  obtain ⟨i, hi, hz0, hz1, hz2⟩ := info_parts infoBo
  exact wpList_app w hgd s x 151 ho base 153 i (.agg #[.int .i64 0, .int .i64 0, .int .i64 0]) 3 24 Tryz.underlying151 hi hz0 hz1 hz2 rfl (by decide) v n xs hs hown vx news hx hr h1 N hN (by omega) (by decide) hbase h
theorem bos_one {l : List Bo} : ∀ u ∈ bosV l, u.oneCell' = true := by
  intro u h
  unfold bosV at h
  obtain ⟨f, _, hu⟩ := List.mem_flatMap.1 h
  unfold boV at hu
  simp only [List.mem_cons, List.not_mem_nil, or_false] at hu
  rcases hu with rfl | rfl | rfl <;> rfl
theorem bosV_append (l m : List Bo) : bosV (l ++ m) = bosV l ++ bosV m := by simp [bosV]
set_option maxRecDepth 100000 in
theorem zeroL_all : (Tryz.zeroCells150.toList).all nought = true := by kernel_rfl
theorem zeroL_ls (n : Nat) (hn : n ≤ 49) : Ls n Tryz.zeroCells150 (iniAt 0 0) := by
  have hs : Tryz.zeroCells150.size = 2401 := Tryz.zeroCells150_size
  refine ⟨hs, fun i k hi hk => ?_⟩
  have e : iniAt 0 0 i k = 0 := by unfold iniAt; rw [if_neg (by omega), if_neg (by omega)]
  have hj : i * 49 + k < Tryz.zeroCells150.size := by omega
  rw [e, Array.getElem?_eq_getElem hj, nought_eq (v := Tryz.zeroCells150[i * 49 + k]) (List.all_eq_true.1 zeroL_all _ (by simp))]
theorem below_ownB {V w w1 : World} {B base s n : Nat} {e : TypeId} {v : Value} {xs : List Value} (hB : V.heap.size = B) (hg : w.grownBy w1 v.ownBlock) (ho : w.ownsRow base e s v n xs) (hb : Below B V w) (h : B ≤ base) : Below B V w1 := by
  subst hB
  exact below_of_own hg ho hb h
/-- What solved does. -/
def RSolP (ps : List ByteArray) (fs : List Fa) (w : World) (e : Ending) (w' : World) : Prop :=
  Below w.heap.size w w' ∧ ((solvedF ps fs = none ∧ e = .returned (.tuple #[.pointer none, .bool false])) ∨ ∃ M B vs, solvedF ps fs = some M ∧ e = .returned (.tuple #[.pointer (some ⟨B, 0, none⟩), .bool true]) ∧ w.heap.size ≤ B ∧ Ls (1 + 2 * ps.length) vs M ∧ Cel w' B 150 vs)
set_option maxRecDepth 100000 in
set_option maxHeartbeats 8000000 in
theorem rsolved_any (v vf : Value) (ps : List ByteArray) (fs : List Fa) (w : World) (h : Sl w 1 v (namesV ps)) (hf : Sl w 4 vf (fasV fs)) (hp : ps.length ≤ 24) (hfew : fs.length ≤ 60) (ha : AllAbout ps fs) :
    Calls Tryz.prog 65 #[v, vf] w (RSolP ps fs w) := by
  obtain ⟨A, n, c, rfl, hS⟩ := h.shape
  obtain ⟨F, m, d, rfl, hSf⟩ := hf.shape
  have HN : Hid (NetC w A n c F m d ps fs) := Lib.hid ⟨hS, hSf⟩
  obtain ⟨e1, e2, h1, h2, h3, h4⟩ := HN.out.many
  subst e1
  subst e2
  have HFc := Lib.hid (fun q => HN.out.fact q)
  have HAb := Lib.hid ha
  obtain ⟨N, hN⟩ : ∃ N, N = 1 + 2 * ps.length := ⟨_, rfl⟩
  have hN9 : N ≤ 49 := by omega
  have HLz := Lib.hid (zeroL_ls N hN9)
  have HC0 := Lib.hid (Cel.new w 150 Tryz.zeroCells150)
  have HB0 := Lib.hid (below_alloc' w (.cells Tryz.zeroCells150 150))
  have hw1 : IntKind.i64.wrap (2 * (ps.length : Int)) = 2 * (ps.length : Int) := IntWalk.i64_in _ (by omega)
  have hw2 : IntKind.i64.wrap (1 + 2 * (ps.length : Int)) = (N : Int) := by rw [IntWalk.i64_in _ (by omega)]; omega
  have HNe := Lib.hid hN
  clear h hf hS hSf ha hN
  go_enter Tryz.func65, Tryz.ntmps65
  go_wp2
  generalize w.alloc (.cells Tryz.zeroCells150 150) = W at *
  generalize Tryz.zeroCells150 = cs at *
  clear hw1 hw2
  obtain ⟨B, hB⟩ : ∃ B, w.heap.size = B := ⟨_, rfl⟩
  rw [hB] at HC0 HB0 ⊢
  have HBq := Lib.hid hB
  clear hB
  go_loopw [8] (fun ti wr => ∃ (r : Nat) (us : Array Value), ti = .int .i64 r ∧ r ≤ N ∧ Hid (Ls N us (iniAt r 0)) ∧ Hid (Cel wr B 150 us) ∧ Hid (Below B w wr)) (fun ti _ => N - (intOf ti).toNat)
  case atStart => exact ⟨0, cs, rfl, by omega, HLz.out, HC0.out, HB0.out⟩
  case round =>
    clear HLz HC0 HB0
    obtain ⟨r, us, rfl, hr, HL, HC, HB⟩ := hrel
    by_cases hlt : r < N
    · have hri : (r : Int) < (N : Int) := by omega
      have hr9 : (r : Int) < 49 := by omega
      have hr0 : (0 : Int) ≤ (r : Int) := by omega
      go_wp2
      go_loopw [9] (fun ti wi => ∃ (c : Nat) (us : Array Value), ti = .int .i64 c ∧ c ≤ N ∧ Hid (Ls N us (iniAt r c)) ∧ Hid (Cel wi B 150 us) ∧ Hid (Below B w wi)) (fun ti _ => N - (intOf ti).toNat)
      case atStart => exact ⟨0, us, rfl, by omega, HL, HC, HB⟩
      case round =>
        clear HL HC HB
        obtain ⟨q, vs, rfl, hq, HL, HC, HB⟩ := hrel
        by_cases hlq : q < N
        · have hqi : (q : Int) < (N : Int) := by omega
          have hq9 : (q : Int) < 49 := by omega
          have hq0 : (0 : Int) ≤ (q : Int) := by omega
          have k3 := HC.out.cell _ _ (HL.out.2 r q hlt hlq)
          have hz := HC.out.frozen (r * 49 + q)
          go_wp2
          go_roundw
          case rel => exact ⟨q + 1, _, by go_num, by omega, HL.out.put hN9 hlt hlq (fun i k _ _ => iniAt_set r q i k), HC.out.setAt _ _, HB.out.setCell (p := ⟨B, r * 49 + q, none⟩) (Nat.le_refl _) _⟩
          case measure => simp [intOf]; omega
        · have hqn : q = N := by omega
          have k3 := HC.out.cell _ _ (HL.out.2 r r hlt hlt)
          have hz := HC.out.frozen (r * 49 + r)
          have HQn := Lib.hid hqn
          clear hqn
          go_wp2
          refine ⟨⟨r + 1, _, by go_num, by omega, HL.out.put hN9 hlt hlt (fun i k hi hk => by rw [HQn.out]; exact iniAt_row hi hk), HC.out.setAt _ _, HB.out.setCell (p := ⟨B, r * 49 + r, none⟩) (Nat.le_refl _) _⟩, by simp [intOf]; omega⟩
    · have hrn : r = N := by omega
      have HM := Lib.hid (show Ls N us (M0 N) from HL.out.same (fun i k hi hk => by rw [hrn]; exact iniAt_end hi hk))
      clear hrn HL
      go_wp2
      have HB0 := HB
      have HC0 := HC
      clear HB HC
      go_loopw [10, 11] (fun v ti wr => ∃ k : Nat, ti = .int .i64 k ∧ k ≤ ps.length ∧ Hid (wr.ownsRow (B + 1) 153 3 v (4 * k) (bosV (bornR k))) ∧ Hid (Cel wr B 150 us) ∧ Hid (Below B w wr)) (fun _ ti _ => ps.length - (intOf ti).toNat)
      case atStart => exact ⟨0, rfl, by omega, World.ownsRow_nil _ _ _ _, HC0.out, HB0.out⟩
      case round =>
        clear HB0 HC0
        obtain ⟨k, rfl, hk, HO, HC, HB⟩ := hrel
        obtain ⟨A7, c7, e7, _⟩ := own_shape HO.out
        subst e7
        by_cases hlk : k < ps.length
        · have hki : (k : Int) < (ps.length : Int) := by omega
          have hk24 : k < 24 := by omega
          have hk0 : (0 : Int) ≤ (k : Int) := by omega
          have HLt := Lib.hid HC.out.lt
          go_wp2_with (refine appBo _ _ rfl rfl (by rfl) (by rfl) (HO.out.alloc _) (Sl.new (s := 3) _ _ 4 4 _ rfl (Nat.le_refl _) (by decide)) (by simp [Value.oneCell']) (N := 4 * (k + 1)) (by simp; omega) (by omega) (by have := HLt.out; simp; omega) ?_; intro A5 c5 w5 hap)
          have hO := hap.own
          have HC5 := Lib.hid ((HC.out.alloc _).kept hap.grown (fun e => by have := own_ge HO.out e.symm; omega))
          have HB5 := Lib.hid (below_ownB HBq.out hap.grown (HO.out.alloc _) (HB.out.alloc (by have := HLt.out; omega) _) (by omega))
          have HO5 : Hid (w5.ownsRow (B + 1) 153 3 (.slice A5 (4 * (k + 1)) c5) (4 * (k + 1)) (bosV (bornR (k + 1)))) := Lib.hid (by
            rw [bornR_succ hk24, bosV_append]
            simpa [bosV, boV] using hO)
          clear hap hO
          go_roundw
          case rel => exact ⟨k + 1, by go_num, by omega, HO5.out, HC5.out, HB5.out⟩
          case measure => simp [intOf]; omega
        · have hkn : k = ps.length := by omega
          have HRL := Lib.hid (show bosV (bornR k) = bosV (refL ps (fs.take 0)) ∧ 4 * k = (refL ps (fs.take 0)).length by
            rw [List.take_zero, refL_nil, hkn, bornR_length]
            exact ⟨rfl, rfl⟩)
          rw [HRL.out.1, HRL.out.2] at HO
          rw [HRL.out.2]
          clear hkn HRL
          go_wp2
          have HO0 := HO
          have HB0 := HB
          have HC0 := HC
          clear HB HC HO
          have HBd := Lib.hid (fun j => (refL_len : (refL ps (fs.take j)).length ≤ _))
          go_loopw [10, 13] (fun v ti wr => ∃ j : Nat, ti = .int .i64 j ∧ j ≤ fs.length ∧ Hid (wr.ownsRow (B + 1) 153 3 v (refL ps (fs.take j)).length (bosV (refL ps (fs.take j)))) ∧ Hid (Cel wr B 150 us) ∧ Hid (Below B w wr)) (fun _ ti _ => fs.length - (intOf ti).toNat)
          case atStart => exact ⟨0, rfl, by omega, HO0.out, HC0.out, HB0.out⟩
          case round =>
            clear HO0 HB0 HC0
            obtain ⟨j, rfl, hj, HO, HC, HB⟩ := hrel
            obtain ⟨A8, c8, e8, _⟩ := own_shape HO.out
            subst e8
            by_cases hlj : j < fs.length
            · have hji : (j : Int) < (fs.length : Int) := by omega
              have hj0 : (0 : Int) ≤ (j : Int) := by omega
              have HLt := Lib.hid HC.out.lt
              have HBw := Lib.hid (show Below w.heap.size w wr by rw [HBq.out]; exact HB.out)
              obtain ⟨b0, o0, rfl, _, hce⟩ := HFc.out (by omega)
              have hfj : fs[j]? = some fs[j] := List.getElem?_eq_getElem hlj
              have hab := HAb.out _ (List.getElem_mem hlj)
              obtain ⟨g1, g2, g3, g4⟩ := hce j _ hfj
              replace g1 := below_cell HBw.out g1
              replace g2 := below_cell HBw.out g2
              replace g3 := below_cell HBw.out g3
              replace g4 := below_cell HBw.out g4
              have HT := Lib.hid (refL_take_succ (ps := ps) hfj)
              have HK := Lib.hid (cond_any (.slice A ps.length c) ps fs[j] wr (HN.out.people.below HBw.out) hp hab)
              have HB1 := Lib.hid (HBd.out (j + 1))
              rw [HT.out] at HB1
              clear hce hfj hab
              unfold faA refBs at HK
              generalize fs[j] = f at *
              obtain ⟨fk, fa, fb, ft⟩ := f
              simp only at g1 g2 g3 g4 HK
              generalize (boundsF ps ⟨fk, fa, fb, ft⟩).map refB = bs at *
              go_wp2_with fail
              refine HK.out.mono ?_
              rintro e w1 ⟨v1, rfl, hl1, hb1⟩
              have HO1 := Lib.hid (own_below HO.out hb1)
              have HC1 := Lib.hid (HC.out.below HC.out.lt hb1)
              have HB2 := Lib.hid (HB.out.trans (hb1.mono (by have := HLt.out; omega)))
              have HL1 := Lib.hid hl1.1
              have HLt1 := Lib.hid HC1.out.lt
              clear hl1 hb1 g1 g2 g3 g4
              go_wp2_with (refine appBo _ _ rfl rfl (by rfl) (by rfl) HO1.out HL1.out bos_one (N := (refL ps (fs.take j)).length + bs.length) (by rw [bosV_length]; omega) (by have := HB1.out; simp at this; omega) (by have := HLt1.out; omega) ?_; intro A5 c5 w5 hap)
              have hO := hap.own
              rw [← bosV_append] at hO
              have HC5 := Lib.hid (HC1.out.kept hap.grown (fun e => by have := own_ge HO1.out e.symm; omega))
              have HB5 := Lib.hid (below_ownB HBq.out hap.grown HO1.out HB2.out (by omega))
              have HO5 : Hid (w5.ownsRow (B + 1) 153 3 (.slice A5 ((refL ps (fs.take j)).length + bs.length) c5) (refL ps (fs.take (j + 1))).length (bosV (refL ps (fs.take (j + 1))))) := Lib.hid (by
                rw [HT.out, List.length_append]
                exact hO)
              clear hap hO
              go_roundw
              case rel => exact ⟨j + 1, by go_num, by omega, HO5.out, HC5.out, HB5.out⟩
              case measure => simp [intOf]; omega
            · have hjn : j = fs.length := by omega
              have HLs := Lib.hid (Sl.of_own HO.out)
              have HLn := Lib.hid (HBd.out j)
              have HRf := Lib.hid (show refL ps (fs.take j) = refL ps fs by rw [hjn, List.take_length])
              rw [HRf.out] at HO HLs HLn
              rw [HRf.out]
              clear hjn HRf HBd
              have HLin := Lib.hid (refL_in hp HAb.out)
              have HLsol := Lib.hid (fun i hi => solved_diag hp HAb.out (i := i) hi)
              have HFar := Lib.hid (far_start hp HAb.out)
              have HSo := Lib.hid (show solvedF ps fs = fwN N (minL (M0 N) (refL ps fs)) N by rw [HNe.out]; rfl)
              rw [← HNe.out] at HLin HLsol HFar
              generalize refL ps fs = L at *
              go_wp2
              have HO0 := HO
              have HB0 := HB
              have HC0 := HC
              clear HB HC HO HLs
              go_loopw [14] (fun ti wr => ∃ (i : Nat) (vs : Array Value), ti = .int .i64 i ∧ i ≤ L.length ∧ Hid (Ls N vs (minL (M0 N) (L.take i))) ∧ Hid (wr.ownsRow (B + 1) 153 3 (.slice A8 L.length c8) L.length (bosV L)) ∧ Hid (Cel wr B 150 vs) ∧ Hid (Below B w wr)) (fun ti _ => L.length - (intOf ti).toNat)
              case atStart => exact ⟨0, us, rfl, by omega, HM.out, HO0.out, HC0.out, HB0.out⟩
              case round =>
                clear HO0 HB0 HC0 HM
                obtain ⟨i, vs, rfl, hi, HL, HO, HC, HB⟩ := hrel
                by_cases hli : i < L.length
                · have hii : (i : Int) < (L.length : Int) := by omega
                  have hi0 : (0 : Int) ≤ (i : Int) := by omega
                  obtain ⟨A9, c9, e9, _, _, hce⟩ := bosV_cell (Sl.of_own HO.out)
                  cases e9
                  obtain ⟨b0, o0, rfl, _, hce⟩ := hce (by omega)
                  have hq : L[i]? = some L[i] := List.getElem?_eq_getElem hli
                  obtain ⟨g1, g2, g3⟩ := hce i _ hq
                  obtain ⟨⟨hx, hy⟩, hne, hlow⟩ := HLin.out _ (List.getElem_mem hli)
                  have g4 := HC.out.cell _ _ (HL.out.2 _ _ hx hy)
                  have HT := Lib.hid (show minL (M0 N) (L.take (i + 1)) = minM (minL (M0 N) (L.take i)) L[i] by rw [List.take_add_one, hq]; exact minL_snoc _ _ _)
                  have x0 : (0 : Int) ≤ ((L[i].x : Nat) : Int) := by omega
                  have y0 : (0 : Int) ≤ ((L[i].y : Nat) : Int) := by omega
                  have x9 : ((L[i].x : Nat) : Int) < 49 := by omega
                  have y9 : ((L[i].y : Nat) : Int) < 49 := by omega
                  clear hq hce hne hlow
                  generalize hb' : L[i] = bo at *
                  clear hb'
                  obtain ⟨x, y, z⟩ := bo
                  simp only at *
                  have hz := HC.out.frozen (x * 49 + y)
                  generalize minL (M0 N) (L.take i) = M at *
                  obtain ⟨mxy, hm⟩ : ∃ m, M x y = m := ⟨_, rfl⟩
                  rw [hm] at g4
                  have HMx := Lib.hid hm
                  clear hm
                  go_upto_region 24 with fail
                  refine wp_region_still_tail 35 (by kernel_rfl) (by kernel_rfl) ?_
                  simp only [List.take_succ_cons, List.take_zero, List.drop_succ_cons, List.drop_zero]
                  iterate 35 still_step
                  refine wpStill_nil ?_
                  go_wp2
                  go_roundw
                  case rel =>
                    refine ⟨i + 1, vs.setIfInBounds (x * 49 + y) (.int .i64 (min mxy z)), by go_num, by omega, ?_, (own_ne HO.out (fun e => by have := own_ge HO.out e; simp at this; omega) _).drew, HC.out.setAt _ _, below_drew (HB.out.setCell (p := ⟨B, x * 49 + y, none⟩) (Nat.le_refl _) _)⟩
                    show Ls _ _ _
                    rw [HT.out]
                    refine HL.out.put hN9 hx hy (fun a b _ _ => ?_)
                    rw [minM_min]
                    simp only [HMx.out]
                  case measure => simp [intOf]; omega
                · have hin : i = L.length := by omega
                  have HL1 := Lib.hid (show Ls N vs (minL (M0 N) L) by have := HL.out; rw [hin, List.take_length] at this; exact this)
                  generalize minL (M0 N) L = M1 at *
                  clear hin HO HL HLin
                  go_wp2
                  have HB0 := HB
                  have HC0 := HC
                  clear HB HC
                  go_loopw [15] (fun ti wr => ∃ (j : Nat) (M : Mat) (vs : Array Value), ti = .int .i64 j ∧ j ≤ N ∧ Hid (fwN N M1 j = some M) ∧ Hid (FwG N j M) ∧ Hid (Far N j M) ∧ Hid (Ls N vs M) ∧ Hid (Cel wr B 150 vs) ∧ Hid (Below B w wr)) (fun ti _ => N - (intOf ti).toNat)
                  case atStart => exact ⟨0, M1, vs, rfl, by omega, rfl, ⟨HLsol.out, fun l hl => absurd hl (Nat.not_lt_zero _)⟩, HFar.out, HL1.out, HC0.out, HB0.out⟩
                  case round =>
                    clear HB0 HC0 HL1 HFar HLsol
                    obtain ⟨j, M, vs, rfl, hj, HF, HG, HFa, HL, HC, HB⟩ := hrel
                    by_cases hlj2 : j < N
                    · have hji : (j : Int) < (N : Int) := by omega
                      have hj0 : (0 : Int) ≤ (j : Int) := by omega
                      have hj9 : (j : Int) < 49 := by omega
                      go_wp2
                      have HL0 := Lib.hid (show Ls N vs (fwAt M j 0 0) by rw [fwAt_zero]; exact HL.out)
                      have HB0 := HB
                      have HC0 := HC
                      clear HB HC HL
                      go_loopw [16] (fun ti wr => ∃ (r : Nat) (us : Array Value), ti = .int .i64 r ∧ r ≤ N ∧ Hid (Ls N us (fwAt M j r 0)) ∧ Hid (Cel wr B 150 us) ∧ Hid (Below B w wr)) (fun ti _ => N - (intOf ti).toNat)
                      case atStart => exact ⟨0, vs, rfl, by omega, HL0.out, HC0.out, HB0.out⟩
                      case round =>
                        clear HL0 HC0 HB0
                        obtain ⟨r, us, rfl, hr, HL, HC, HB⟩ := hrel
                        by_cases hlr : r < N
                        · have hri : (r : Int) < (N : Int) := by omega
                          have hr0 : (0 : Int) ≤ (r : Int) := by omega
                          have hr9 : (r : Int) < 49 := by omega
                          go_wp2
                          have HB0 := HB
                          have HC0 := HC
                          have HL0 := HL
                          clear HB HC HL
                          go_loopw [17] (fun ti wr => ∃ (q : Nat) (us : Array Value), ti = .int .i64 q ∧ q ≤ N ∧ Hid (Ls N us (fwAt M j r q)) ∧ Hid (Cel wr B 150 us) ∧ Hid (Below B w wr)) (fun ti _ => N - (intOf ti).toNat)
                          case atStart => exact ⟨0, us, rfl, by omega, HL0.out, HC0.out, HB0.out⟩
                          case round =>
                            clear HL0 HC0 HB0
                            obtain ⟨q, us, rfl, hq, HL, HC, HB⟩ := hrel
                            by_cases hlq : q < N
                            · have hqi : (q : Int) < (N : Int) := by omega
                              have hq0 : (0 : Int) ≤ (q : Int) := by omega
                              have hq9 : (q : Int) < 49 := by omega
                              have k1 := HC.out.cell _ _ (HL.out.2 r q hlr hlq)
                              have k2 := HC.out.cell _ _ (HL.out.2 r j hlr hlj2)
                              have k3 := HC.out.cell _ _ (HL.out.2 j q hlj2 hlq)
                              rw [fwAt_here] at k1
                              rw [fwAt_col HG.out hlj2] at k2
                              rw [fwAt_row HG.out hlj2] at k3
                              have hz := HC.out.frozen (r * 49 + q)
                              have e2 := HFa.out.small (by omega) hlr hlj2
                              have e3 := HFa.out.small (by omega) hlj2 hlq
                              have hwr : IntKind.i64.wrap (M r j + M j q) = M r j + M j q := IntWalk.i64_in _ (by omega)
                              clear e2 e3
                              go_upto_region 34 with fail
                              refine wp_region_still_tail 29 (by kernel_rfl) (by kernel_rfl) ?_
                              simp only [List.take_succ_cons, List.take_zero, List.drop_succ_cons, List.drop_zero]
                              iterate 29 still_step
                              refine wpStill_nil ?_
                              go_wp2
                              go_roundw
                              case rel =>
                                refine ⟨q + 1, us.setIfInBounds (r * 49 + q) (.int .i64 (min (M r q) (M r j + M j q))), by go_num, by omega, ?_, HC.out.setAt _ _, below_drew (HB.out.setCell (p := ⟨B, r * 49 + q, none⟩) (Nat.le_refl _) _)⟩
                                refine HL.out.put hN9 hlr hlq (fun a b _ _ => ?_)
                                rw [fwAt_set, fwS_min]
                              case measure => simp [intOf]; omega
                            · have hqn : q = N := by omega
                              have HL1 := Lib.hid (show Ls N us (fwAt M j (r + 1) 0) from HL.out.same (fun a b _ hb => by rw [hqn]; exact fwAt_next M j r a b hb))
                              clear hqn HL
                              go_wp2
                              exact ⟨⟨r + 1, us, by go_num, by omega, HL1.out, HC.out, HB.out⟩, by simp [intOf]; omega⟩
                        · have hrn : r = N := by omega
                          have HL1 := Lib.hid (show Ls N us (fwS M j) from HL.out.same (fun a b ha _ => by rw [hrn]; exact fwAt_end M j a b ha))
                          clear hrn HL
                          go_wp2
                          go_loop [18] (fun ti => ∃ i : Nat, ti = .int .i64 i ∧ i ≤ N ∧ Hid (∀ q, q < i → 0 ≤ fwS M j q q)) (fun ti => N - (intOf ti).toNat)
                          case atStart => exact ⟨0, rfl, by omega, fun q hq => absurd hq (Nat.not_lt_zero _)⟩
                          case round =>
                            obtain ⟨i, rfl, hi, HQ⟩ := hrel
                            by_cases hli2 : i < N
                            · have hii : (i : Int) < (N : Int) := by omega
                              have hi0 : (0 : Int) ≤ (i : Int) := by omega
                              have hi9 : (i : Int) < 49 := by omega
                              have k1 := HC.out.cell _ _ (HL1.out.2 i i hli2 hli2)
                              obtain ⟨m, hm⟩ : ∃ m, fwS M j i i = m := ⟨_, rfl⟩
                              rw [hm] at k1
                              have HMm := Lib.hid hm
                              clear hm
                              by_cases hneg : m < 0
                              · have HNn := Lib.hid (show solvedF ps fs = none by
                                  rw [HSo.out]
                                  exact fwN_stop (fwN_bad HF.out hli2 (by rw [HMm.out]; exact hneg)) (by omega))
                                go_wp2
                                go_ret2
                                exact ⟨by rw [HBq.out]; exact HB.out, .inl ⟨HNn.out, rfl⟩⟩
                              · go_wp2
                                refine ⟨⟨i + 1, by go_num, by omega, fun q hq => ?_⟩, by simp [intOf]; omega⟩
                                rcases Nat.lt_succ_iff_lt_or_eq.1 hq with e | e
                                · exact HQ.out q e
                                · rw [e, HMm.out]; omega
                            · have hin : i = N := by omega
                              have HPos := Lib.hid (show ∀ q, q < N → 0 ≤ fwS M j q q from fun q hq => HQ.out q (by omega))
                              clear hin HQ
                              go_wp2
                              refine ⟨⟨j + 1, fwS M j, us, by go_num, by omega, fwN_fine HF.out HPos.out, fwS_good HG.out hlj2 HPos.out, HFa.out.next hlj2, HL1.out, HC.out, HB.out⟩, by simp [intOf]; omega⟩
                    · have hjn : j = N := by omega
                      have HSn := Lib.hid (show solvedF ps fs = some M by
                        rw [HSo.out]
                        have := HF.out
                        rw [hjn] at this
                        exact this)
                      clear hjn
                      go_wp2
                      go_ret2
                      exact ⟨by rw [HBq.out]; exact HB.out, .inr ⟨M, B, vs, HSn.out, rfl, by rw [HBq.out]; exact Nat.le_refl _, by rw [← HNe.out]; exact HL.out, HC.out⟩⟩
end Go.Proofs.YtdmcopjbckelmaaGreatDoor
