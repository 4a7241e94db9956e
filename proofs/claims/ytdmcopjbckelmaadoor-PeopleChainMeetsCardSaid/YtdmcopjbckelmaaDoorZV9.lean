/- PeopleChainMeets: the walk. Conditions: those stated. -/
import Derived.Test.YtdmcopjbckelmaaDoorZJ1
import Derived.Test.YtdmcopjbckelmaaDoorZH
namespace Go.Proofs.YtdmcopjbckelmaaDoor
open Go Go.RowKit Go.Shelf
attribute [local go_sem] Oper.semAt_some

/-- What a chain is. -/
structure ChainG (ds : List De) (a b : ByteArray) (n : Nat) (l : List ByteArray) : Prop where
  far : Lst (Met ds) b n a
  ha : a ∈ allF ds
  hb : b ∈ allF ds
  len : l.length = n + 1
  fst : l[0]? = some a
  lst : l[n]? = some b
  met : ∀ (j : Nat) x y, l[j]? = some x → l[j + 1]? = some y → Met ds x y
def Linked (ds : List De) (a b : ByteArray) : Prop := a ∈ allF ds ∧ b ∈ allF ds ∧ Reach ds a b
theorem Linked.symm {ds : List De} {a b : ByteArray} (h : Linked ds a b) : Linked ds b a := ⟨h.2.1, h.1, h.2.2.symm⟩
/-- What Chain answers, of valid deeds. -/
def Chain2 (ds : List De) (a b : ByteArray) (w : World) (e : Ending) (w' : World) : Prop := Below w.heap.size w w' ∧
  ((∃ n l v, ChainG ds a b n l ∧ e = .returned (.tuple #[v, .int .i64 0]) ∧ Sl w' 1 v (namesV l)) ∨ (¬ Linked ds a b ∧ e = .returned (.tuple #[.slice none 0 0, .int .i64 4])))
theorem chain2 (v : Value) (ds : List De) (a b : ByteArray) (w : World) (h : DeedsV w v ds) (hs : ShortDs ds) (hc : checkDF ds = 0) : Calls Tryd.prog 36 #[v, .string a, .string b] w (Chain2 ds a b w) := by
  refine (chain_good v ds a b w h hs hc).mono ?_
  rintro e w' ⟨hb, i, hi, hm⟩
  refine ⟨hb, ?_⟩
  cases hq : chainV ds (dsI (knownF ds) b i).1 a b with
  | none =>
    rw [hq] at hm
    refine .inr ⟨fun hl => chainV_none hi hq ⟨hl.1, hl.2.1, reach_lst.1 hl.2.2.symm⟩, hm⟩
  | some l =>
    rw [hq] at hm
    obtain ⟨v', e1, e2⟩ := hm
    obtain ⟨n, n1, n2, n3, rfl⟩ := chainV_some hi hq
    obtain ⟨g1, g2, g3⟩ := chT_good hi n a n1
    exact .inl ⟨n, _, v', ⟨n1, n2, n3, by simp [g1], rfl, g3, g2⟩, e1, e2⟩
theorem ChainG.linked {ds : List De} {a b : ByteArray} {n : Nat} {l : List ByteArray} (h : ChainG ds a b n l) : Linked ds a b := ⟨h.ha, h.hb, (reach_lst.2 ⟨n, h.far⟩).symm⟩
theorem ChainG.same {ds : List De} {a b : ByteArray} {n m : Nat} {l k : List ByteArray} (h : ChainG ds a b n l) (g : ChainG ds b a m k) : n = m :=
  h.far.uniq ((lst_turn (fun _ _ => Met.symm)).1 g.far)
theorem ChainG.self {ds : List De} {a b : ByteArray} {n : Nat} {l : List ByteArray} (h : ChainG ds a b n l) (e : a = b) : n = 0 := by
  subst e
  exact h.far.uniq Lst.start
theorem ChainG.near {ds : List De} {a b : ByteArray} {n : Nat} {l : List ByteArray} (h : ChainG ds a b n l) (e : 0 < togF ds a b) : n ≤ 1 := by
  have hm := (tog_met.1 e).symm
  have hv : Lv (Met ds) b 1 a := ⟨b, rfl, hm⟩
  obtain ⟨j, hj, hl⟩ := hv.least
  have := h.far.uniq hl
  omega
theorem cidx_wit {ds : List De} {d : De} {s : ByteArray} (hd : d ∈ ds) (hs : s ∈ d.wit) : cidx (circlesF ds) s = cidx (circlesF ds) d.sealer := by
  have t1 : takesB d s = true := by unfold takesB; rw [memB_iff.2 hs, Bool.or_true]
  have t2 : takesB d d.sealer = true := by unfold takesB; rw [decide_eq_true rfl, Bool.true_or]
  have hm : Met ds s d.sealer := ⟨d, hd, t1, t2⟩
  exact (cidx_same.2 ⟨met_all1 hm, met_all _ _ hm, ⟨1, s, rfl, hm⟩⟩).2
theorem circ_left {cs : List (List ByteArray)} {v : Value} {s : ByteArray} {i : Int} (w : World) (h : CirV w v cs) (e : cidx cs s = i) : Calls Tryd.prog 39 #[v, .string s] w fun e w' => e = .returned (.int .i64 i) ∧ w = w' := by
  rw [← e]
  exact (circle_any v cs s w h).mono (fun _ _ q => ⟨q.1, q.2.symm⟩)
/-- The cells of names. -/
theorem names_at {w : World} {v : Value} {l : List ByteArray} (h : Sl w 1 v (namesV l)) : ∃ A c, v = .slice A l.length c ∧ l.length ≤ c ∧ (c : Int) ≤ 9223372036854775807 ∧ (0 < l.length → ∃ b o, A = some ⟨b, o, none⟩ ∧ b < w.heap.size ∧ ∀ (k : Nat) s, l[k]? = some s → w.cell? ⟨b, o + k, none⟩ = some (.string s)) := by
  obtain ⟨A, n, c, rfl, hl, hc, hm, hcl⟩ := h.open2 (by decide)
  rw [namesV_length] at hl
  obtain rfl : n = l.length := by omega
  refine ⟨A, c, rfl, hc, hm, fun hn => ?_⟩
  obtain ⟨b, o, rfl, hb, hce⟩ := hcl hn
  exact ⟨b, o, rfl, hb, fun k s hk => hce k _ (by simp [namesV, hk])⟩
set_option maxRecDepth 100000 in
set_option maxHeartbeats 8000000 in
theorem chainMeets_bad (r : Int) (hr : r = 3 ∨ r = 102) (A : Option Addr) (c : Nat) (a b : ByteArray) (ds : List De) (w : World) (h : DeedsV w (.slice A ds.length c) ds) (hs : ShortDs ds) (hz : Zw w) (hc : checkDF ds = r) :
    Calls Tryd.prog 10 #[.slice A ds.length c, .string a, .string b] w fun e w' => e = .returned (.bool true) ∧ Below w.heap.size w w' := by
  have HWk := Lib.hid (fun w' hb => works_any w' (hz.below hb))
  have HCk := Lib.hid (fun w' (hw : Below w.heap.size w w') => checkDeeds_any (.slice A ds.length c) ds w' (h.below hw) hs)
  have HCi := Lib.hid (fun w' (hw : Below w.heap.size w w') => circles_any (.slice A ds.length c) ds w' (h.below hw) hs)
  have HC1 := Lib.hid (fun w' (hw : Below w.heap.size w w') => chain_bad r hr (.slice A ds.length c) ds a b w' (h.below hw) hs hc)
  have HC2 := Lib.hid (fun w' (hw : Below w.heap.size w w') => chain_bad r hr (.slice A ds.length c) ds b a w' (h.below hw) hs hc)
  have HB0 := Lib.hid (Below.refl w.heap.size w)
  rw [hc] at HCk HCi
  unfold CircP at HCi
  clear h hs hz hc
  rcases hr with rfl | rfl
  all_goals
    go_enter Tryd.func10, Tryd.ntmps10
    go_wp2_with fail
    refine (HC1.out _ HB0.out).mono ?_
    rintro e w1 ⟨rfl, hb1⟩
    have HB1 := Lib.hid (HB0.out.trans (hb1.mono HB0.out.size))
    clear hb1
    go_wp2_with fail
    refine (HC2.out _ HB1.out).mono ?_
    rintro e w2 ⟨rfl, hb2⟩
    have HB2 := Lib.hid (HB1.out.trans (hb2.mono HB1.out.size))
    clear hb2
    go_wp2_with fail
    refine (HCi.out _ HB2.out).mono ?_
    rintro e w3 ⟨hb3, vc, rfl, hvc⟩
    have HB3 := Lib.hid (HB2.out.trans (hb3.mono HB2.out.size))
    obtain ⟨Ac, nc, cc, rfl, _⟩ := (show ∃ (A : Option Addr) (n c : Nat), vc = .slice A n c ∧ True by obtain ⟨_, _, h2, _⟩ := hvc; obtain ⟨A, n, c, e, _⟩ := h2.shape; exact ⟨A, n, c, e, trivial⟩)
    clear hvc
    clear hb3
    go_wp2_with fail
    refine (HCk.out _ HB3.out).mono ?_
    rintro e w4 ⟨rfl, hb4⟩
    have HB4 := Lib.hid (HB3.out.trans (hb4.mono HB3.out.size))
    clear hb4
    go_wp2_with fail
    refine (HWk.out _ HB4.out).mono ?_
    rintro e wz ⟨rfl, hbz⟩
    have HBz := Lib.hid (HB4.out.trans (hbz.mono HB4.out.size))
    clear hbz
    go_wp2
    go_ret
    exact ⟨rfl, HBz.out⟩
set_option maxRecDepth 100000 in
set_option maxHeartbeats 8000000 in
theorem chainMeets_yes (A : Option Addr) (c : Nat) (a b : ByteArray) (ds : List De) (w : World) (h : DeedsV w (.slice A ds.length c) ds) (hs : ShortDs ds) (hz : Zw w) (hc : checkDF ds = 0) (hl : Linked ds a b) :
    Calls Tryd.prog 10 #[.slice A ds.length c, .string a, .string b] w fun e w' => e = .returned (.bool true) ∧ Below w.heap.size w w' := by
  have HWk := Lib.hid (fun w' hb => works_any w' (hz.below hb))
  have HCk := Lib.hid (fun w' (hw : Below w.heap.size w w') => checkDeeds_any (.slice A ds.length c) ds w' (h.below hw) hs)
  have HCi := Lib.hid (fun w' (hw : Below w.heap.size w w') => circles_any (.slice A ds.length c) ds w' (h.below hw) hs)
  have hcs := checkDF_few hc
  have HTo := Lib.hid (fun x y w' (hw : Below w.heap.size w w') => together_any (.slice A ds.length c) ds x y w' (h.below hw) hs)
  have HD := Lib.hid (fun q => h.deed q)
  have HB0 := Lib.hid (Below.refl w.heap.size w)
  obtain ⟨_, hA1, hA2⟩ := h.many
  unfold togV at HTo
  rw [hc] at HCk HCi
  rw [if_pos rfl] at HCi
  simp only [hc, if_true] at HTo
  unfold CircP at HCi
  have HC1 := Lib.hid (fun w' (hw : Below w.heap.size w w') => (chain2 (.slice A ds.length c) ds a b w' (h.below hw) hs hc).mono (R' := fun e w'' => Below w'.heap.size w' w'' ∧ ∃ n l v, ChainG ds a b n l ∧ e = .returned (.tuple #[v, .int .i64 0]) ∧ Sl w'' 1 v (namesV l)) (fun e w'' q => ⟨q.1, q.2.elim id (fun z => absurd hl z.1)⟩))
  have HC2 := Lib.hid (fun w' (hw : Below w.heap.size w w') => (chain2 (.slice A ds.length c) ds b a w' (h.below hw) hs hc).mono (R' := fun e w'' => Below w'.heap.size w' w'' ∧ ∃ n l v, ChainG ds b a n l ∧ e = .returned (.tuple #[v, .int .i64 0]) ∧ Sl w'' 1 v (namesV l)) (fun e w'' q => ⟨q.1, q.2.elim id (fun z => absurd hl.symm z.1)⟩))
  obtain ⟨cx, hcx⟩ : ∃ x, cidx (circlesF ds) a = x := ⟨_, rfl⟩
  have hcy := (cidx_same.2 hl)
  rw [hcx] at hcy
  have HK1 := Lib.hid (fun wq vc (hq : CirV wq vc (circlesF ds)) => circ_left wq hq hcx)
  have HK2 := Lib.hid (fun wq vc (hq : CirV wq vc (circlesF ds)) => circ_left wq hq hcy.2.symm)
  have hcx0 := hcy.1
  have n5 : decide (0 ≤ cx) = true := decide_eq_true hcx0
  have n6 : (cx == cx) = true := by simp
  clear h hs hz hc hl hcx hcy hcs
  go_enter Tryd.func10, Tryd.ntmps10
  go_wp2_with fail
  refine (HC1.out _ HB0.out).mono ?_
  rintro e w1 ⟨hb1, n, lx, vx, hg1, rfl, hv1⟩
  have HB1 := Lib.hid (HB0.out.trans (hb1.mono HB0.out.size))
  have HG := Lib.hid hg1
  have HV := Lib.hid hv1
  clear hg1 hv1
  clear hb1
  obtain ⟨Ax, cx', rfl, hx1, hx2, _⟩ := names_at HV.out
  go_wp2_with fail
  refine (HC2.out _ HB1.out).mono ?_
  rintro e w2 ⟨hb2, m, ly, vy, hg2, rfl, hv2⟩
  have HB2 := Lib.hid (HB1.out.trans (hb2.mono HB1.out.size))
  replace HV := Lib.hid (HV.out.below hb2)
  have hnm : lx.length = ly.length := by rw [HG.out.len, hg2.len, HG.out.same hg2]
  obtain ⟨Ay, cy', rfl, hy1, hy2, _⟩ := names_at hv2
  rw [← hnm]
  clear hg2 hv2 hnm hy1 hy2
  clear hb2
  go_wp2_with fail
  refine (HCi.out _ HB2.out).mono ?_
  rintro e w3 ⟨hb3, vc, rfl, hvc⟩
  have HB3 := Lib.hid (HB2.out.trans (hb3.mono HB2.out.size))
  replace HV := Lib.hid (HV.out.below hb3)
  have HCs := Lib.hid hvc
  clear hvc
  clear hb3
  obtain ⟨Ac, nc, cc, rfl⟩ : ∃ (A : Option Addr) (n c : Nat), vc = .slice A n c := by obtain ⟨_, _, h2, _⟩ := HCs.out; obtain ⟨A, n, c, e, _⟩ := h2.shape; exact ⟨A, n, c, e⟩
  go_wp2_with fail
  refine (HCk.out _ HB3.out).mono ?_
  rintro e w4 ⟨rfl, hb4⟩
  have HB4 := Lib.hid (HB3.out.trans (hb4.mono HB3.out.size))
  replace HCs := Lib.hid (HCs.out.below hb4)
  replace HV := Lib.hid (HV.out.below hb4)
  clear hb4
  go_wp2_with fail
  refine (HK1.out _ _ HCs.out).mono ?_
  rintro e w' ⟨rfl, rfl⟩
  go_wp2_with fail
  refine (HK2.out _ _ HCs.out).mono ?_
  rintro e w' ⟨rfl, rfl⟩
  obtain ⟨Ax2, cx2, ex2, _, _, hcell⟩ := names_at HV.out
  cases ex2
  have HLen := Lib.hid HG.out.len
  have hlen := HLen.out
  obtain ⟨bx, ox, rfl, _, hcell⟩ := hcell (by omega)
  have HCell := Lib.hid hcell
  have d0 := hcell 0 a HG.out.fst
  rw [Nat.add_zero] at d0
  have d1 := hcell n b HG.out.lst
  clear hcell
  have hln : (lx.length : Int) - 1 = (n : Int) := by omega
  have hwn : IntKind.i64.wrap ((lx.length : Int) - 1) = (n : Int) := by rw [IntWalk.i64_in _ (by omega)]; exact hln
  have hn0 : (n : Int) < (lx.length : Int) := by omega
  have hn1 : (0 : Int) ≤ (n : Int) := by omega
  have hl0 : (0 : Int) < (lx.length : Int) := by omega
  have m3 : ((lx.length : Int) == 0) = false := beq_eq_false_iff_ne.2 (by omega)
  have m4 : (lx.length == 0) = false := beq_eq_false_iff_ne.2 (by omega)
  have m5 : ¬ lx.length = 0 := by omega
  have e1 : (a.toList == a.toList) = true := by simp
  have e2 : (a.toList != a.toList) = false := by simp
  have e3 : (b.toList == b.toList) = true := by simp
  have e4 : (b.toList != b.toList) = false := by simp
  clear hlen hln
  go_upto_region 9 with fail
  go_cut [128] (fun t wx => ∃ Wc : World, Wc = wx ∧ t = .bool false ∧ Wc = w4)
  case first =>
    by_cases hab : a = b
    · have hn : n = 0 := HG.out.self hab
      have hlen := HLen.out
      have q1 : (a.toList == b.toList) = true := by rw [hab]; simp
      have q2 : ((lx.length : Int) != 1) = false := by rw [bne, show ((lx.length : Int) == 1) = true from beq_iff_eq.2 (by omega)]; rfl
      have q3 : ((lx.length : Int) == 1) = true := beq_iff_eq.2 (by omega)
      have q4 : (lx.length == 1) = true := beq_iff_eq.2 (by omega)
      have q5 : (lx.length != 1) = false := by rw [bne, q4]; rfl
      have q6 : lx.length = 1 := by omega
      have HQ6 := Lib.hid q6
      clear hab hn q6 hlen
      go_wp2
      go_meet
      exact ⟨_, rfl, rfl, rfl⟩
    · have q1 : (a.toList == b.toList) = false := by rw [Bool.eq_false_iff]; intro z; exact hab ((Lib.bytes_beq_iff _ _).1 z)
      clear hab
      go_wp2
      go_meet
      exact ⟨_, rfl, rfl, rfl⟩
  case rest =>
    obtain ⟨Wc, hW1, rfl, hW2⟩ := hcut
    have hW3 := hW2.symm
    clear hW2
    subst hW1
    subst hW3
    clear d0 d1 e1 e2 e3 e4 m3 m4 m5 hwn hn0 hn1 hl0
    go_wp2
    go_loopw [15] (fun ti wr => ∃ i : Nat, ti = .int .i64 i ∧ 1 ≤ i ∧ i ≤ lx.length ∧ Hid (Below w.heap.size w wr) ∧ Hid (Below w4.heap.size w4 wr)) (fun ti _ => lx.length - (intOf ti).toNat)
    case atStart => exact ⟨1, rfl, by omega, by have := HLen.out; omega, HB4.out, Below.refl _ _⟩
    case round =>
      obtain ⟨i, rfl, hi1, hi, HB40, HU⟩ := hrel
      obtain ⟨wx, hwx⟩ : ∃ wx, wx = wr := ⟨_, rfl⟩
      rw [← hwx] at HB40 HU ⊢
      clear hwx
      by_cases hlt : i < lx.length
      · have hii : (i : Int) < (lx.length : Int) := by omega
        obtain ⟨p, hp⟩ : ∃ p, i = p + 1 := ⟨i - 1, by omega⟩
        have hp0 : (0 : Int) ≤ (p : Int) := by omega
        have hi0 : (0 : Int) ≤ (i : Int) := by omega
        have hpl : (p : Int) < (lx.length : Int) := by omega
        have hwp : IntKind.i64.wrap ((i : Int) - 1) = (p : Int) := by rw [IntWalk.i64_in _ (by omega)]; omega
        obtain ⟨s, hsx⟩ : ∃ s, lx[p]? = some s := ⟨_, List.getElem?_eq_getElem (by omega)⟩
        obtain ⟨t, htx⟩ : ∃ t, lx[i]? = some t := ⟨_, List.getElem?_eq_getElem hlt⟩
        have hmet := HG.out.met p s t hsx (by rw [← hp]; exact htx)
        have htog := tog_met.2 hmet
        have c1 := below_cell HU.out (HCell.out p s hsx)
        have c2 := below_cell HU.out (HCell.out i t htx)
        have HTs := Lib.hid (HTo.out s t)
        generalize togF ds s t = T at *
        have d1 : decide ((T : Int) < 1) = false := decide_eq_false (by omega)
        have d2 : ¬ (T : Int) < 1 := by omega
        clear hp hsx htx hmet htog
        go_upto_region 14 with fail
        refine wp_region_held_drew (S := fun w' => Below wx.heap.size wx w') (by kernel_rfl) (below_drew (Below.refl _ _)) (fun hHeld => ?_)
        refine wpAnyH_takeD (i := 0) (v := ?_) 136 rfl (by kernel_rfl) (by kernel_rfl) (by kernel_rfl) (fun _ _ _ h => h) (Or.inl ⟨by rfl, ?_⟩) (by assumption) rfl ?_
        rotate_left
        · intro w' hSw
          have k1 := below_cell hSw c1; have k2 := below_cell hSw c2
          go_simp <;> with_reducible rfl
        simp only [List.setIfInBounds_toArray, List.set_cons_succ, List.set_cons_zero]
        refine wpAnyH_takeD (i := 1) (v := ?_) 137 rfl (by kernel_rfl) (by kernel_rfl) (by kernel_rfl) (fun _ _ _ h => h) (Or.inl ⟨by rfl, ?_⟩) (by assumption) rfl ?_
        rotate_left
        · intro w' hSw
          have k1 := below_cell hSw c1; have k2 := below_cell hSw c2
          go_simp <;> with_reducible rfl
        simp only [List.setIfInBounds_toArray, List.set_cons_succ, List.set_cons_zero]
        refine wpAnyH_takeD (i := 2) (v := ?_) 138 rfl (by kernel_rfl) (by kernel_rfl) (by kernel_rfl) (fun _ _ _ h => h) (Or.inl ⟨by rfl, ?_⟩) (by assumption) rfl ?_
        rotate_left
        · intro w' hSw
          have k1 := below_cell hSw c1; have k2 := below_cell hSw c2
          go_simp <;> with_reducible rfl
        simp only [List.setIfInBounds_toArray, List.set_cons_succ, List.set_cons_zero]
        refine wpAnyH_takeD (i := 3) (v := ?_) 139 rfl (by kernel_rfl) (by kernel_rfl) (by kernel_rfl) (fun _ _ _ h => h) (Or.inl ⟨by rfl, ?_⟩) (by assumption) rfl ?_
        rotate_left
        · intro w' hSw
          have k1 := below_cell hSw c1; have k2 := below_cell hSw c2
          go_simp <;> with_reducible rfl
        simp only [List.setIfInBounds_toArray, List.set_cons_succ, List.set_cons_zero]
        refine wpAnyH_takeD (i := 4) (v := ?_) 140 rfl (by kernel_rfl) (by kernel_rfl) (by kernel_rfl) (fun _ _ _ h => h) (Or.inl ⟨by rfl, ?_⟩) (by assumption) rfl ?_
        rotate_left
        · intro w' hSw
          have k1 := below_cell hSw c1; have k2 := below_cell hSw c2
          go_simp <;> with_reducible rfl
        simp only [List.setIfInBounds_toArray, List.set_cons_succ, List.set_cons_zero]
        refine wpAnyH_takeD (i := 5) (v := ?_) 141 rfl (by kernel_rfl) (by kernel_rfl) (by kernel_rfl) (fun _ _ _ h => h) (Or.inl ⟨by rfl, ?_⟩) (by assumption) rfl ?_
        rotate_left
        · intro w' hSw
          have k1 := below_cell hSw c1; have k2 := below_cell hSw c2
          go_simp <;> with_reducible rfl
        simp only [List.setIfInBounds_toArray, List.set_cons_succ, List.set_cons_zero]
        refine wpAnyH_takeD (i := 6) (v := ?_) 142 rfl (by kernel_rfl) (by kernel_rfl) (by kernel_rfl) (fun _ _ _ h => h) (Or.inl ⟨by rfl, ?_⟩) (by assumption) rfl ?_
        rotate_left
        · intro w' hSw
          have k1 := below_cell hSw c1; have k2 := below_cell hSw c2
          go_simp <;> with_reducible rfl
        simp only [List.setIfInBounds_toArray, List.set_cons_succ, List.set_cons_zero]
        refine wpAnyH_takeD (i := 7) (v := ?_) 143 rfl (by kernel_rfl) (by kernel_rfl) (by kernel_rfl) (fun _ _ _ h => h) (Or.inl ⟨by rfl, ?_⟩) (by assumption) rfl ?_
        rotate_left
        · intro w' hSw
          have k1 := below_cell hSw c1; have k2 := below_cell hSw c2
          go_simp <;> with_reducible rfl
        simp only [List.setIfInBounds_toArray, List.set_cons_succ, List.set_cons_zero]
        refine wpAnyH_takeD (i := 8) (v := ?_) 144 rfl (by kernel_rfl) (by kernel_rfl) (by kernel_rfl) (fun _ _ _ h => h) (Or.inl ⟨by rfl, ?_⟩) (by assumption) rfl ?_
        rotate_left
        · intro w' hSw
          have k1 := below_cell hSw c1; have k2 := below_cell hSw c2
          go_simp <;> with_reducible rfl
        simp only [List.setIfInBounds_toArray, List.set_cons_succ, List.set_cons_zero]
        refine wpAnyH_takeD (i := 9) (v := ?_) 145 rfl (by kernel_rfl) (by kernel_rfl) (by kernel_rfl) (fun _ _ _ h => h) (Or.inl ⟨by rfl, ?_⟩) (by assumption) rfl ?_
        rotate_left
        · intro w' hSw
          have k1 := below_cell hSw c1; have k2 := below_cell hSw c2
          go_simp <;> with_reducible rfl
        simp only [List.setIfInBounds_toArray, List.set_cons_succ, List.set_cons_zero]
        refine wpAnyH_ready (rs := [10]) (by kernel_rfl) (by simp) ?_
        refine AllReadyH.cons (o := _) rfl (fun K hK => ?_) AllReadyH.nil
        go_simp
        go_at_call 40
        refine (HTs.out _ (HB40.out.trans (hHeld.mono HB40.out.size))).mono ?_
        rintro e w41 ⟨rfl, hb41⟩
        have HV41 := Lib.hid (hHeld.trans (hb41.mono hHeld.size))
        clear hb41
        refine hK.out _ _ HV41.out (fun hHeld2 => ?_)
        clear hK K
        refine wpAnyH_takeD (i := 11) (v := ?_) 135 rfl (by kernel_rfl) (by kernel_rfl) (by kernel_rfl) (fun _ _ _ h => h) (Or.inl ⟨by rfl, ?_⟩) (by assumption) rfl ?_
        rotate_left
        · intro w' hSw
          have k1 := below_cell hSw c1; have k2 := below_cell hSw c2
          go_simp <;> with_reducible rfl
        simp only [List.setIfInBounds_toArray, List.set_cons_succ, List.set_cons_zero]
        refine wpAnyH_takeD (i := 12) (v := ?_) 147 rfl (by kernel_rfl) (by kernel_rfl) (by kernel_rfl) (fun _ _ _ h => h) (Or.inl ⟨by rfl, ?_⟩) (by assumption) rfl ?_
        rotate_left
        · intro w' hSw
          have k1 := below_cell hSw c1; have k2 := below_cell hSw c2
          go_simp <;> with_reducible rfl
        simp only [List.setIfInBounds_toArray, List.set_cons_succ, List.set_cons_zero]
        refine wpAnyH_takeD (i := 13) (v := ?_) 148 rfl (by kernel_rfl) (by kernel_rfl) (by kernel_rfl) (fun _ _ _ h => h) (Or.inl ⟨by rfl, ?_⟩) (by assumption) rfl ?_
        rotate_left
        · intro w' hSw
          have k1 := below_cell hSw c1; have k2 := below_cell hSw c2
          go_simp <;> with_reducible rfl
        simp only [List.setIfInBounds_toArray, List.set_cons_succ, List.set_cons_zero]
        refine wpAnyH_takeD (i := 14) (v := ?_) 16 rfl (by kernel_rfl) (by kernel_rfl) (by kernel_rfl) (fun _ _ _ h => h) (Or.inl ⟨by rfl, ?_⟩) (by assumption) rfl ?_
        rotate_left
        · intro w' hSw
          have k1 := below_cell hSw c1; have k2 := below_cell hSw c2
          go_simp <;> with_reducible rfl
        simp only [List.setIfInBounds_toArray, List.set_cons_succ, List.set_cons_zero]
        refine wpAnyH_takeD (i := 15) (v := ?_) 17 rfl (by kernel_rfl) (by kernel_rfl) (by kernel_rfl) (fun _ _ _ h => h) (Or.inl ⟨by rfl, ?_⟩) (by assumption) rfl ?_
        rotate_left
        · intro w' hSw
          have k1 := below_cell hSw c1; have k2 := below_cell hSw c2
          go_simp <;> with_reducible rfl
        simp only [List.setIfInBounds_toArray, List.set_cons_succ, List.set_cons_zero]
        refine wpAnyH_done (by kernel_rfl) ?_ _
        clear c1 c2
        go_wp2
        go_roundw
        case rel => exact ⟨i + 1, by go_num, by omega, by omega, HB40.out.trans (HV41.out.mono HB40.out.size), HU.out.trans (HV41.out.mono HU.out.size)⟩
        case measure => simp [intOf]; omega
      · have hin : i = lx.length := by omega
        clear hin
        replace HCs := Lib.hid (HCs.out.below HU.out)
        have hnr := HG.out.near
        obtain ⟨wy, rfl⟩ : ∃ wy, wy = wx := ⟨_, rfl⟩
        have HT2 := Lib.hid (HTo.out a b _ HB40.out)
        generalize togF ds a b = T at *
        go_wp2_with fail
        refine (HT2.out).mono ?_
        rintro e w41 ⟨rfl, hb41⟩
        have HB41 := Lib.hid (HB40.out.trans (hb41.mono HB40.out.size))
        replace HCs := Lib.hid (HCs.out.below hb41)
        clear hb41
        go_upto_region 18 with fail
        go_cut [172] (fun t wx => ∃ Wc : World, Wc = wx ∧ t = .bool false ∧ Wc = w41)
        case first =>
          have HLen2 := HLen.out
          by_cases ht : 0 < T
          · have hq := hnr ht
            have d1 : decide ((0 : Int) < (T : Int)) = true := decide_eq_true (by omega)
            have d1' : (0 : Int) < (T : Int) := by omega
            have d2 : decide ((2 : Int) < (lx.length : Int)) = false := decide_eq_false (by omega)
            have d3 : ¬ (2 : Int) < (lx.length : Int) := by omega
            have d4 : decide (2 < lx.length) = false := decide_eq_false (by omega)
            have d5 : decide (0 < T) = true := decide_eq_true ht
            clear hq HLen2 hnr
            go_wp2
            go_meet
            exact ⟨_, rfl, rfl, rfl⟩
          · have d1 : decide ((0 : Int) < (T : Int)) = false := decide_eq_false (by omega)
            have d1' : ¬ (0 : Int) < (T : Int) := by omega
            have d5 : decide (0 < T) = false := decide_eq_false ht
            clear HLen2 hnr
            go_wp2
            go_meet
            exact ⟨_, rfl, rfl, rfl⟩
        case rest =>
          obtain ⟨Wc, rfl, rfl, rfl⟩ := hcut
          clear hnr HU HV HG HCell HLen hi1 hi
          go_wp2
          go_loopw [20] (fun ti wr => ∃ i : Nat, ti = .int .i64 i ∧ i ≤ ds.length ∧ Hid (Below w.heap.size w wr) ∧ Hid (CirV wr (.slice Ac nc cc) (circlesF ds))) (fun ti _ => ds.length - (intOf ti).toNat)
          case atStart => exact ⟨0, rfl, by omega, HB41.out, HCs.out⟩
          case round =>
            clear HB41 HCs
            obtain ⟨i, rfl, hi, HB50, HCs⟩ := hrel
            by_cases hlt : i < ds.length
            · have hii : (i : Int) < (ds.length : Int) := by omega
              have hi0 : (0 : Int) ≤ (i : Int) := by omega
              obtain ⟨b0, o0, rfl, _, hce⟩ := HD.out (by omega)
              have hget : ds[i]? = some ds[i] := List.getElem?_eq_getElem hlt
              obtain ⟨g0, g1, g2, g3, Aw, nw, cw, g4, hsw⟩ := hce i _ hget
              have HWi := Lib.hid (fun s (q : s ∈ ds[i].wit) => cidx_wit (List.getElem_mem hlt) q)
              clear hce hget g0 g1 g3
              generalize ds[i] = d at *
              obtain ⟨nm, yr, se, sl, wit⟩ := d
              simp only at g2 g4 hsw HWi
              obtain ⟨A8, c8, e8, hc8, hcm8, hn8⟩ := names_at hsw
              cases e8
              have HG2 := Lib.hid (fun wq (hq : Below w.heap.size w wq) => below_cell hq g2)
              have HG4 := Lib.hid (fun wq (hq : Below w.heap.size w wq) => below_cell hq g4)
              have HNm := Lib.hid (fun q => hn8 q)
              clear g2 g4 hsw hn8
              have k4 := HG4.out _ HB50.out
              go_wp2
              clear k4
              go_loopw [21] (fun ti wr => ∃ j : Nat, ti = .int .i64 j ∧ j ≤ wit.length ∧ Hid (Below w.heap.size w wr) ∧ Hid (CirV wr (.slice Ac nc cc) (circlesF ds))) (fun ti _ => wit.length - (intOf ti).toNat)
              case atStart => exact ⟨0, rfl, by omega, HB50.out, HCs.out⟩
              case round =>
                clear HB50 HCs
                obtain ⟨j, rfl, hj, HB51, HCs⟩ := hrel
                have k4 := HG4.out _ HB51.out
                by_cases hlj : j < wit.length
                · have hjj : (j : Int) < (wit.length : Int) := by omega
                  have hj0 : (0 : Int) ≤ (j : Int) := by omega
                  have k2 := HG2.out _ HB51.out
                  obtain ⟨b9, o9, rfl, _, hn9⟩ := HNm.out (by omega)
                  have hgj : wit[j]? = some wit[j] := List.getElem?_eq_getElem hlj
                  have k5 := below_cell HB51.out (hn9 j _ hgj)
                  have hcx := HWi.out wit[j] (List.getElem_mem hlj)
                  generalize wit[j] = s at *
                  obtain ⟨x, hx⟩ : ∃ x, cidx (circlesF ds) se = x := ⟨_, rfl⟩
                  rw [hx] at hcx
                  have HX1 := Lib.hid (fun wq (hq : CirV wq (.slice Ac nc cc) (circlesF ds)) => circ_left wq hq hcx)
                  have HX2 := Lib.hid (fun wq (hq : CirV wq (.slice Ac nc cc) (circlesF ds)) => circ_left wq hq hx)
                  have HCd := Lib.hid (fun n => (show CirV (wr.drewN n) (.slice Ac nc cc) (circlesF ds) from HCs.out.below (below_drewN (Below.refl _ _) n)))
                  have n1 : (x != x) = false := by simp
                  have n2 : (x == x) = true := by simp
                  clear hcx hx hgj hn9
                  go_upto_region 26 with fail
                  go_quiet ((first | (go_at_call_of 39 (Value.string s); exact quiet_left (HX1.out _ (by first | exact HCd.out _ | exact HCs.out))) | (go_at_call_of 39 (Value.string se); exact quiet_left (HX2.out _ (by first | exact HCd.out _ | exact HCs.out)))))
                  go_wp2
                  go_roundw
                  case rel => exact ⟨j + 1, by go_num, by omega, below_drewN HB51.out _, HCs.out.below (below_drewN (Below.refl _ _) _)⟩
                  case measure => simp [intOf]; omega
                · go_wp2
                  exact ⟨⟨i + 1, by go_num, by omega, HB51.out, HCs.out⟩, by simp [intOf]; omega⟩
            · have hin : i = ds.length := by omega
              clear hin
              go_wp2_with fail
              refine (HWk.out _ HB50.out).mono ?_
              rintro e wz ⟨rfl, hbz⟩
              have HBz := Lib.hid (HB50.out.trans (hbz.mono HB50.out.size))
              clear hbz
              go_wp2
              go_ret
              exact ⟨rfl, HBz.out⟩
set_option maxRecDepth 100000 in
set_option maxHeartbeats 8000000 in
theorem chainMeets_no (A : Option Addr) (c : Nat) (a b : ByteArray) (ds : List De) (w : World) (h : DeedsV w (.slice A ds.length c) ds) (hs : ShortDs ds) (hz : Zw w) (hc : checkDF ds = 0) (hl : ¬ Linked ds a b) :
    Calls Tryd.prog 10 #[.slice A ds.length c, .string a, .string b] w fun e w' => e = .returned (.bool true) ∧ Below w.heap.size w w' := by
  have HWk := Lib.hid (fun w' hb => works_any w' (hz.below hb))
  have HCk := Lib.hid (fun w' (hw : Below w.heap.size w w') => checkDeeds_any (.slice A ds.length c) ds w' (h.below hw) hs)
  have HCi := Lib.hid (fun w' (hw : Below w.heap.size w w') => circles_any (.slice A ds.length c) ds w' (h.below hw) hs)
  have hcs := checkDF_few hc
  have HTo := Lib.hid (fun x y w' (hw : Below w.heap.size w w') => together_any (.slice A ds.length c) ds x y w' (h.below hw) hs)
  have HD := Lib.hid (fun q => h.deed q)
  have HB0 := Lib.hid (Below.refl w.heap.size w)
  obtain ⟨_, hA1, hA2⟩ := h.many
  unfold togV at HTo
  rw [hc] at HCk HCi
  rw [if_pos rfl] at HCi
  simp only [hc, if_true] at HTo
  unfold CircP at HCi
  have HC1 := Lib.hid (fun w' (hw : Below w.heap.size w w') => (chain2 (.slice A ds.length c) ds a b w' (h.below hw) hs hc).mono (R' := fun e w'' => Below w'.heap.size w' w'' ∧ e = .returned (.tuple #[.slice none 0 0, .int .i64 4])) (fun e w'' q => ⟨q.1, q.2.elim (fun ⟨_, _, _, z, _⟩ => absurd z.linked hl) (fun z => z.2)⟩))
  have HC2 := Lib.hid (fun w' (hw : Below w.heap.size w w') => (chain2 (.slice A ds.length c) ds b a w' (h.below hw) hs hc).mono (R' := fun e w'' => Below w'.heap.size w' w'' ∧ e = .returned (.tuple #[.slice none 0 0, .int .i64 4])) (fun e w'' q => ⟨q.1, q.2.elim (fun ⟨_, _, _, z, _⟩ => absurd z.linked.symm hl) (fun z => z.2)⟩))
  obtain ⟨cx, hcx⟩ : ∃ x, cidx (circlesF ds) a = x := ⟨_, rfl⟩
  obtain ⟨cy, hcy⟩ : ∃ x, cidx (circlesF ds) b = x := ⟨_, rfl⟩
  have hne : ¬ (0 ≤ cx ∧ cx = cy) := by rw [← hcx, ← hcy]; exact fun q => hl (cidx_same.1 q)
  have HK1 := Lib.hid (fun wq vc (hq : CirV wq vc (circlesF ds)) => circ_left wq hq hcx)
  have HK2 := Lib.hid (fun wq vc (hq : CirV wq vc (circlesF ds)) => circ_left wq hq hcy)
  clear h hs hz hc hl hcx hcy hcs
  go_enter Tryd.func10, Tryd.ntmps10
  go_wp2_with fail
  refine (HC1.out _ HB0.out).mono ?_
  rintro e w1 ⟨hb1, rfl⟩
  have HB1 := Lib.hid (HB0.out.trans (hb1.mono HB0.out.size))
  clear hb1
  go_wp2_with fail
  refine (HC2.out _ HB1.out).mono ?_
  rintro e w2 ⟨hb2, rfl⟩
  have HB2 := Lib.hid (HB1.out.trans (hb2.mono HB1.out.size))
  clear hb2
  go_wp2_with fail
  refine (HCi.out _ HB2.out).mono ?_
  rintro e w3 ⟨hb3, vc, rfl, hvc⟩
  have HB3 := Lib.hid (HB2.out.trans (hb3.mono HB2.out.size))
  have HCs := Lib.hid hvc
  clear hvc
  clear hb3
  obtain ⟨Ac, nc, cc, rfl⟩ : ∃ (A : Option Addr) (n c : Nat), vc = .slice A n c := by obtain ⟨_, _, h2, _⟩ := HCs.out; obtain ⟨A, n, c, e, _⟩ := h2.shape; exact ⟨A, n, c, e⟩
  go_wp2_with fail
  refine (HCk.out _ HB3.out).mono ?_
  rintro e w4 ⟨rfl, hb4⟩
  have HB4 := Lib.hid (HB3.out.trans (hb4.mono HB3.out.size))
  replace HCs := Lib.hid (HCs.out.below hb4)
  clear hb4
  go_wp2_with fail
  refine (HK1.out _ _ HCs.out).mono ?_
  rintro e w' ⟨rfl, rfl⟩
  go_wp2_with fail
  refine (HK2.out _ _ HCs.out).mono ?_
  rintro e w' ⟨rfl, rfl⟩
  go_upto_region 7 with fail
  go_cut [94] (fun t wx => ∃ Wc : World, Wc = wx ∧ t = .bool false ∧ Wc = w4)
  case first =>
    by_cases h0 : 0 ≤ cx
    · have h1 : ¬ cx = cy := fun q => hne ⟨h0, q⟩
      have n1 : decide (0 ≤ cx) = true := decide_eq_true h0
      have n2 : (cx == cy) = false := beq_eq_false_iff_ne.2 h1
      clear h1 hne
      go_wp2
      go_meet
      exact ⟨_, rfl, rfl, rfl⟩
    · have n1 : decide (0 ≤ cx) = false := decide_eq_false h0
      clear hne
      go_wp2
      go_meet
      exact ⟨_, rfl, rfl, rfl⟩
  case rest =>
    obtain ⟨Wc, rfl, rfl, rfl⟩ := hcut
    clear hne
    go_wp2
    go_loop [15] (fun ti => ti = .int .i64 1) (fun _ => 0)
    case atStart => exact rfl
    case round =>
      subst hrel
      have HT2 := Lib.hid (HTo.out a b _ HB4.out)
      generalize togF ds a b = T at *
      go_wp2_with fail
      refine (HT2.out).mono ?_
      rintro e w5 ⟨rfl, hb5⟩
      have HB5 := Lib.hid (HB4.out.trans (hb5.mono HB4.out.size))
      replace HCs := Lib.hid (HCs.out.below hb5)
      clear hb5
      go_upto_region 18 with fail
      go_cut [172] (fun t wx => ∃ Wc : World, Wc = wx ∧ t = .bool false ∧ Wc = w5)
      case first =>
        by_cases ht : 0 < T
        · have d1 : decide ((0 : Int) < (T : Int)) = true := decide_eq_true (by omega)
          have d1' : (0 : Int) < (T : Int) := by omega
          have d5 : decide (0 < T) = true := decide_eq_true ht
          go_wp2
          go_meet
          exact ⟨_, rfl, rfl, rfl⟩
        · have d1 : decide ((0 : Int) < (T : Int)) = false := decide_eq_false (by omega)
          have d1' : ¬ (0 : Int) < (T : Int) := by omega
          have d5 : decide (0 < T) = false := decide_eq_false ht
          go_wp2
          go_meet
          exact ⟨_, rfl, rfl, rfl⟩
      case rest =>
        obtain ⟨Wc, rfl, rfl, rfl⟩ := hcut
        go_wp2
        go_loopw [20] (fun ti wr => ∃ i : Nat, ti = .int .i64 i ∧ i ≤ ds.length ∧ Hid (Below w.heap.size w wr) ∧ Hid (CirV wr (.slice Ac nc cc) (circlesF ds))) (fun ti _ => ds.length - (intOf ti).toNat)
        case atStart => exact ⟨0, rfl, by omega, HB5.out, HCs.out⟩
        case round =>
          clear HB5 HCs
          obtain ⟨i, rfl, hi, HB50, HCs⟩ := hrel
          by_cases hlt : i < ds.length
          · have hii : (i : Int) < (ds.length : Int) := by omega
            have hi0 : (0 : Int) ≤ (i : Int) := by omega
            obtain ⟨b0, o0, rfl, _, hce⟩ := HD.out (by omega)
            have hget : ds[i]? = some ds[i] := List.getElem?_eq_getElem hlt
            obtain ⟨g0, g1, g2, g3, Aw, nw, cw, g4, hsw⟩ := hce i _ hget
            have HWi := Lib.hid (fun s (q : s ∈ ds[i].wit) => cidx_wit (List.getElem_mem hlt) q)
            clear hce hget g0 g1 g3
            generalize ds[i] = d at *
            obtain ⟨nm, yr, se, sl, wit⟩ := d
            simp only at g2 g4 hsw HWi
            obtain ⟨A8, c8, e8, hc8, hcm8, hn8⟩ := names_at hsw
            cases e8
            have HG2 := Lib.hid (fun wq (hq : Below w.heap.size w wq) => below_cell hq g2)
            have HG4 := Lib.hid (fun wq (hq : Below w.heap.size w wq) => below_cell hq g4)
            have HNm := Lib.hid (fun q => hn8 q)
            clear g2 g4 hsw hn8
            have k4 := HG4.out _ HB50.out
            go_wp2
            clear k4
            go_loopw [21] (fun ti wr => ∃ j : Nat, ti = .int .i64 j ∧ j ≤ wit.length ∧ Hid (Below w.heap.size w wr) ∧ Hid (CirV wr (.slice Ac nc cc) (circlesF ds))) (fun ti _ => wit.length - (intOf ti).toNat)
            case atStart => exact ⟨0, rfl, by omega, HB50.out, HCs.out⟩
            case round =>
              clear HB50 HCs
              obtain ⟨j, rfl, hj, HB51, HCs⟩ := hrel
              have k4 := HG4.out _ HB51.out
              by_cases hlj : j < wit.length
              · have hjj : (j : Int) < (wit.length : Int) := by omega
                have hj0 : (0 : Int) ≤ (j : Int) := by omega
                have k2 := HG2.out _ HB51.out
                obtain ⟨b9, o9, rfl, _, hn9⟩ := HNm.out (by omega)
                have hgj : wit[j]? = some wit[j] := List.getElem?_eq_getElem hlj
                have k5 := below_cell HB51.out (hn9 j _ hgj)
                have hcx := HWi.out wit[j] (List.getElem_mem hlj)
                generalize wit[j] = s at *
                obtain ⟨x, hx⟩ : ∃ x, cidx (circlesF ds) se = x := ⟨_, rfl⟩
                rw [hx] at hcx
                have HX1 := Lib.hid (fun wq (hq : CirV wq (.slice Ac nc cc) (circlesF ds)) => circ_left wq hq hcx)
                have HX2 := Lib.hid (fun wq (hq : CirV wq (.slice Ac nc cc) (circlesF ds)) => circ_left wq hq hx)
                have HCd := Lib.hid (fun n => (show CirV (wr.drewN n) (.slice Ac nc cc) (circlesF ds) from HCs.out.below (below_drewN (Below.refl _ _) n)))
                have n1 : (x != x) = false := by simp
                have n2 : (x == x) = true := by simp
                clear hcx hx hgj hn9
                go_upto_region 26 with fail
                go_quiet ((first | (go_at_call_of 39 (Value.string s); exact quiet_left (HX1.out _ (by first | exact HCd.out _ | exact HCs.out))) | (go_at_call_of 39 (Value.string se); exact quiet_left (HX2.out _ (by first | exact HCd.out _ | exact HCs.out)))))
                go_wp2
                go_roundw
                case rel => exact ⟨j + 1, by go_num, by omega, below_drewN HB51.out _, HCs.out.below (below_drewN (Below.refl _ _) _)⟩
                case measure => simp [intOf]; omega
              · go_wp2
                exact ⟨⟨i + 1, by go_num, by omega, HB51.out, HCs.out⟩, by simp [intOf]; omega⟩
          · have hin : i = ds.length := by omega
            clear hin
            go_wp2_with fail
            refine (HWk.out _ HB50.out).mono ?_
            rintro e wz ⟨rfl, hbz⟩
            have HBz := Lib.hid (HB50.out.trans (hbz.mono HB50.out.size))
            clear hbz
            go_wp2
            go_ret
            exact ⟨rfl, HBz.out⟩
theorem chainMeets_all (v : Value) (a b : ByteArray) (ds : List De) (w : World) (h : DeedsV w v ds) (hs : ShortDs ds) (hz : Zw w) :
    Calls Tryd.prog 10 #[v, .string a, .string b] w fun e w' => e = .returned (.bool true) ∧ Below w.heap.size w w' := by
  obtain ⟨A, c, rfl, h⟩ := h.shape
  rcases checkDF_cases ds with hc | hc | hc
  · exact chainMeets_bad 3 (.inl rfl) A c a b ds w h hs hz hc
  · exact chainMeets_bad 102 (.inr rfl) A c a b ds w h hs hz hc
  · by_cases hl : Linked ds a b
    · exact chainMeets_yes A c a b ds w h hs hz hc hl
    · exact chainMeets_no A c a b ds w h hs hz hc hl
end Go.Proofs.YtdmcopjbckelmaaDoor
