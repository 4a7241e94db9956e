/- Walks of the package people: Together. Conditions: those stated. Walks of the package bullalaw10: circle. Conditions: those stated. Walks of the package people: Circles. Conditions: those stated. -/
import Derived.Test.YtdmcopjbckelmaaGreatDoorZH3
import Derived.Test.YtdmcopjbckelmaaGreatDoorZG
import Derived.Test.YtdmcopjbckelmaaGreatDoorZRB
import Derived.Test.YtdmcopjbckelmaaGreatDoorZA2
namespace Go.Proofs.YtdmcopjbckelmaaGreatDoor
section
open Go Go.RowKit Go.Shelf
attribute [local go_sem] Oper.semAt_some

/-- What Together answers. -/
def togV (ds : List De) (a b : ByteArray) : Int := if checkDF ds = 0 then (togF ds a b : Int) else 0
set_option maxRecDepth 100000 in
set_option maxHeartbeats 4000000 in
theorem together_bad (r : Int) (hr : r = 3 ∨ r = 102) (v : Value) (ds : List De) (a b : ByteArray) (w : World) (h : DeedsV w v ds) (hs : ShortDs ds) (hc : checkDF ds = r) :
    Calls Tryz.prog 17 #[v, .string a, .string b] w fun e w' => e = .returned (.tuple #[.int .i64 0, .int .i64 r]) ∧ Below w.heap.size w w' := by
  have HK := Lib.hid (checkDeeds_any v ds w h hs)
  rw [hc] at HK
  obtain ⟨A, c, rfl, _⟩ := h.shape
  clear h hs hc
  rcases hr with rfl | rfl
  all_goals
    go_enter Tryz.func17, Tryz.ntmps17
    go_wp2_with fail
    refine HK.out.mono ?_
    rintro e w1 ⟨rfl, hb1⟩
    have HB := Lib.hid hb1
    clear hb1
    go_wp2
    go_ret2
    exact ⟨rfl, HB.out⟩
set_option maxRecDepth 100000 in
set_option maxHeartbeats 4000000 in
theorem together_good (v : Value) (ds : List De) (a b : ByteArray) (w : World) (h : DeedsV w v ds) (hs : ShortDs ds) (hc : checkDF ds = 0) :
    Calls Tryz.prog 17 #[v, .string a, .string b] w fun e w' => e = .returned (.tuple #[.int .i64 (togF ds a b : Int), .int .i64 0]) ∧ Below w.heap.size w w' := by
  have HK := Lib.hid (checkDeeds_any v ds w h hs)
  rw [hc] at HK
  have hl := (checkDF_ok hc).1
  obtain ⟨A, c, rfl, h⟩ := h.shape
  obtain ⟨_, h1, h2⟩ := h.many
  have HD := Lib.hid (fun q => h.deed q)
  clear h hs hc
  go_enter Tryz.func17, Tryz.ntmps17
  go_wp2_with fail
  refine HK.out.mono ?_
  rintro e w1 ⟨rfl, hb1⟩
  have HB1 := Lib.hid hb1
  clear hb1 HK
  go_wp2
  go_loopw [9, 19] (fun tn ti wr => ∃ k : Nat, ti = .int .i64 k ∧ k ≤ ds.length ∧ tn = .int .i64 ((togF (ds.take k) a b : Nat) : Int) ∧ Hid (Below w.heap.size w wr)) (fun _ ti _ => ds.length - (intOf ti).toNat)
  case atStart => exact ⟨0, rfl, by omega, rfl, HB1.out⟩
  case round =>
    clear HB1
    obtain ⟨k, rfl, hk, rfl, HB⟩ := hrel
    by_cases hlt : k < ds.length
    · have hki : (k : Int) < (ds.length : Int) := by omega
      obtain ⟨b0, o0, rfl, _, hce⟩ := HD.out (by omega)
      have hget : ds[k]? = some ds[k] := List.getElem?_eq_getElem hlt
      obtain ⟨g0, g1, g2, g3, Aw, nw, cw, g4, hsw⟩ := hce k _ hget
      replace g0 := below_cell HB.out g0
      replace g1 := below_cell HB.out g1
      replace g2 := below_cell HB.out g2
      replace g3 := below_cell HB.out g3
      replace g4 := below_cell HB.out g4
      have HT := Lib.hid (tog_succ hget a b)
      have HL := Lib.hid (tog_le ds a b k)
      have HW := Lib.hid (hsw.below HB.out)
      clear hce hget hsw
      generalize ds[k] = d at *
      obtain ⟨nm, yr, se, sl, wit⟩ := d
      simp only at g0 g1 g2 g3 g4 HW
      have HBa := Lib.hid (HB.out.alloc HB.out.size (.cells #[.string nm, .int .i64 yr, .string se, .string sl, .slice Aw nw cw] 63))
      have HWa := Lib.hid (HW.out.alloc (.cells #[.string nm, .int .i64 yr, .string se, .string sl, .slice Aw nw cw] 63))
      have HY := Lib.hid (Cel.new wr 63 #[.string nm, .int .i64 yr, .string se, .string sl, .slice Aw nw cw])
      go_upto_region 8 with fail
      clear g0 g1 g2 g3 g4
      obtain ⟨B, hB⟩ : ∃ B, wr.heap.size = B := ⟨_, rfl⟩
      rw [hB] at HY
      generalize wr.alloc (.cells #[.string nm, .int .i64 yr, .string se, .string sl, .slice Aw nw cw] 63) = wa at *
      have c0 := HY.out.cell 0 (.string nm) rfl
      have c1 := HY.out.cell 1 (.int .i64 yr) rfl
      have c2 := HY.out.cell 2 (.string se) rfl
      have c3 := HY.out.cell 3 (.string sl) rfl
      have c4 := HY.out.cell 4 (.slice Aw nw cw) rfl
      have HC1 := Lib.hid (takes_any nm yr se sl wit Aw nw cw a wa HWa.out)
      have HC2 := Lib.hid (fun w' (hw : Below wa.heap.size wa w') => takes_any nm yr se sl wit Aw nw cw b w' (HWa.out.below hw))
      generalize takesB ⟨nm, yr, se, sl, wit⟩ a = t1 at *
      generalize takesB ⟨nm, yr, se, sl, wit⟩ b = t2 at *
      generalize togF (ds.take k) a b = T at *
      have hwr : IntKind.i64.wrap ((T : Int) + 1) = (T : Int) + 1 := IntWalk.i64_in _ (by have := HL.out; omega)
      go_wp2_with fail
      refine HC1.out.mono ?_
      rintro e w2 ⟨rfl, hb2⟩
      have HB2 := Lib.hid (HBa.out.trans (hb2.mono HBa.out.size))
      have HY2 := Lib.hid (HY.out.below HY.out.lt hb2)
      have HU := Lib.hid hb2
      clear hb2 c0 c1 c2 c3 c4 HC1 HY HWa HBa
      cases t1 with
      | false =>
        go_wp2
        go_roundw
        case rel => exact ⟨k + 1, by go_num, by omega, by rw [HT.out]; rfl, HB2.out⟩
        case measure => simp [intOf]; omega
      | true =>
        have c0 := HY2.out.cell 0 (.string nm) rfl
        have c1 := HY2.out.cell 1 (.int .i64 yr) rfl
        have c2 := HY2.out.cell 2 (.string se) rfl
        have c3 := HY2.out.cell 3 (.string sl) rfl
        have c4 := HY2.out.cell 4 (.slice Aw nw cw) rfl
        go_wp2_with fail
        refine (HC2.out w2 HU.out).mono ?_
        rintro e w3 ⟨rfl, hb3⟩
        have HB3 := Lib.hid (HB2.out.trans (hb3.mono HB2.out.size))
        clear hb3 c0 c1 c2 c3 c4
        cases t2 with
        | false =>
          go_wp2
          go_roundw
          case rel => exact ⟨k + 1, by go_num, by omega, by rw [HT.out]; rfl, HB3.out⟩
          case measure => simp [intOf]; omega
        | true =>
          go_wp2
          go_roundw
          case rel => exact ⟨k + 1, by go_num, by omega, by rw [HT.out]; simp, HB3.out⟩
          case measure => simp [intOf]; omega
    · have hkn : k = ds.length := by omega
      have HR := Lib.hid (show togF (ds.take k) a b = togF ds a b by rw [hkn, List.take_length])
      clear hkn
      go_wp2
      go_ret2
      exact ⟨by rw [HR.out]; rfl, HB.out⟩
theorem checkDF_cases (ds : List De) : checkDF ds = 3 ∨ checkDF ds = 102 ∨ checkDF ds = 0 := by
  unfold checkDF
  split
  · exact .inl rfl
  · split
    · exact .inr (.inr rfl)
    · exact .inr (.inl rfl)
theorem together_any (v : Value) (ds : List De) (a b : ByteArray) (w : World) (h : DeedsV w v ds) (hs : ShortDs ds) :
    Calls Tryz.prog 17 #[v, .string a, .string b] w fun e w' => e = .returned (.tuple #[.int .i64 (togV ds a b), .int .i64 (checkDF ds)]) ∧ Below w.heap.size w w' := by
  unfold togV
  rcases checkDF_cases ds with hc | hc | hc
  · have := together_bad 3 (.inl rfl) v ds a b w h hs hc
    rw [hc, if_neg (by decide)]
    exact this
  · have := together_bad 102 (.inr rfl) v ds a b w h hs hc
    rw [hc, if_neg (by decide)]
    exact this
  · have := together_good v ds a b w h hs hc
    rw [hc, if_pos rfl]
    exact this
end

section
open Go Go.RowKit Go.Shelf
attribute [local go_sem] Oper.semAt_some

/-- A slice of lists of names in memory. -/
def CirV (w : World) (v : Value) (cs : List (List ByteArray)) : Prop := ∃ vs : List Value, vs.length = cs.length ∧ Sl w 1 v vs ∧ ∀ (i : Nat) u c, vs[i]? = some u → cs[i]? = some c → Sl w 1 u (namesV c)
theorem CirV.below {w w' : World} {v : Value} {cs : List (List ByteArray)} (h : CirV w v cs) (hb : Below w.heap.size w w') : CirV w' v cs := by
  obtain ⟨vs, h1, h2, h3⟩ := h
  exact ⟨vs, h1, h2.below hb, fun i u c hu hc => (h3 i u c hu hc).below hb⟩
theorem cidx_at {cs : List (List ByteArray)} {s : ByteArray} {i : Nat} {c : List ByteArray} (hi : cs[i]? = some c) (hs : s ∈ c) (hn : ∀ j d, j < i → cs[j]? = some d → ¬ s ∈ d) : cidx cs s = (i : Int) := by
  unfold cidx
  have hil : i < cs.length := by
    rcases Nat.lt_or_ge i cs.length with y | y
    · exact y
    · rw [List.getElem?_eq_none y] at hi; cases hi
  have : cs.findIdx? (fun c => memB c s) = some i := by
    rw [List.findIdx?_eq_some_iff_getElem]
    refine ⟨hil, ?_, fun j hj => ?_⟩
    · rw [List.getElem?_eq_getElem hil] at hi
      rw [Option.some.inj hi]
      exact memB_iff.2 hs
    · rw [Bool.not_eq_true]
      exact memB_no.2 (hn j _ hj (List.getElem?_eq_getElem (by omega)))
  rw [this]
theorem cidx_none {cs : List (List ByteArray)} {s : ByteArray} {k : Nat} (hk : cs.length ≤ k) (hn : ∀ j d, j < k → cs[j]? = some d → ¬ s ∈ d) : cidx cs s = -1 := by
  unfold cidx
  rw [List.findIdx?_eq_none_iff.2 fun c hc => ?_]
  obtain ⟨j, hj, e⟩ := List.mem_iff_getElem.1 hc
  exact memB_no.2 (hn j c (by omega) (by rw [List.getElem?_eq_getElem hj, e]))
theorem rAt_in' {v : Value} {l : List ByteArray} {s : ByteArray} {i : Int} (w : World) (h : Sl w 1 v (namesV l)) (e : atF l s = i) : Calls Tryz.prog 39 #[v, .string s] w fun e w' => e = .returned (.int .i64 i) ∧ w' = w := by
  rw [← e]
  exact rAt_any v l s w h
end

section
open Go Go.RowKit Go.Shelf
attribute [local go_sem] Oper.semAt_some

/-- All blocks below n but one are as they were. -/
structure Bx (bh n : Nat) (a b : World) : Prop where
  size : a.heap.size ≤ b.heap.size
  block : ∀ i, i < n → i ≠ bh → b.heap[i]? = a.heap[i]?
theorem Bx.refl (bh n : Nat) (a : World) : Bx bh n a a := ⟨Nat.le_refl _, fun _ _ _ => rfl⟩
theorem Bx.trans {bh n : Nat} {a b c : World} (h : Bx bh n a b) (g : Bx bh n b c) : Bx bh n a c := ⟨Nat.le_trans h.size g.size, fun i hi hb => (g.block i hi hb).trans (h.block i hi hb)⟩
theorem Bx.mono {bh n m : Nat} {a b : World} (h : Bx bh n a b) (hm : m ≤ n) : Bx bh m a b := ⟨h.size, fun i hi hb => h.block i (by omega) hb⟩
theorem Bx.below {bh n : Nat} {a b c : World} (h : Bx bh n a b) (g : Below b.heap.size b c) (hn : n ≤ b.heap.size) : Bx bh n a c :=
  ⟨Nat.le_trans h.size g.size, fun i hi hb => (g.block i (by omega)).trans (h.block i hi hb)⟩
theorem Bx.grown {bh n : Nat} {a b c : World} {row : Option Nat} (h : Bx bh n a b) (g : b.grownBy c row) (hn : n ≤ b.heap.size) (hr : ∀ q, row = some q → n ≤ q ∨ q = bh) : Bx bh n a c :=
  ⟨Nat.le_trans h.size g.size, fun i hi hb => (g.block i (by omega) (fun e => by rcases hr i e.symm with q | q <;> omega)).trans (h.block i hi hb)⟩
theorem cell_heap {a b : World} {p : Addr} (h : b.heap[p.block]? = a.heap[p.block]?) : b.cell? p = a.cell? p := by
  unfold World.cell?
  rw [h]
theorem cell_lt {a : World} {p : Addr} {u : Value} (h : a.cell? p = some u) : p.block < a.heap.size := by
  rcases Nat.lt_or_ge p.block a.heap.size with q | q
  · exact q
  · unfold World.cell? at h
    rw [Array.getElem?_eq_none q] at h
    cases h
theorem Bx.kc {bh n : Nat} {a b : World} {m : List Kv} (h : Bx bh n a b) (hn : a.heap.size ≤ n) (hm : MapW a bh m) : KC a b := by
  refine ⟨h.size, fun p u hp => ?_⟩
  rw [cell_heap (h.block p.block (Nat.lt_of_lt_of_le (cell_lt hp) hn) (fun e => ?_))]
  · exact hp
  · obtain ⟨es, c, hh, _⟩ := hm
    unfold World.cell? at hp
    rw [e, hh] at hp
    cases hp
theorem Bx.own {bh n : Nat} {a b : World} {base s m : Nat} {e : TypeId} {v : Value} {xs : List Value} (h : Bx bh n a b) (hn : a.heap.size ≤ n) (ho : a.ownsRow base e s v m xs) (hb : bh < base) : b.ownsRow base e s v m xs := by
  obtain ⟨hl, ⟨rfl, rfl⟩ | ⟨g, cap, cur, rfl, hb', hh, hr⟩⟩ := ho
  · exact ⟨hl, .inl ⟨rfl, rfl⟩⟩
  · have hg : g < a.heap.size := (Array.getElem?_eq_some_iff.1 hh).1
    exact ⟨hl, .inr ⟨g, cap, cur, rfl, hb', (h.block g (by omega) (by omega)).trans hh, hr⟩⟩
/-- Rows of names beside a row of them: none lies in its block. -/
def RowsW (w : World) (ob : Option Nat) (vs : List Value) (cs : List (List ByteArray)) : Prop :=
  vs.length = cs.length ∧ ∀ (i : Nat) u c, vs[i]? = some u → cs[i]? = some c → ∃ g n cc, u = .slice (some ⟨g, 0, none⟩) n cc ∧ Sl w 1 u (namesV c) ∧ some g ≠ ob ∧ g < w.heap.size
theorem RowsW.kc {a b : World} {ob : Option Nat} {vs : List Value} {cs : List (List ByteArray)} (h : RowsW a ob vs cs) (k : KC a b) : RowsW b ob vs cs :=
  ⟨h.1, fun i u c hu hc => by
    obtain ⟨g, n, cc, e, h1, h2, h3⟩ := h.2 i u c hu hc
    exact ⟨g, n, cc, e, h1.kc k, h2, Nat.lt_of_lt_of_le h3 k.1⟩⟩
theorem RowsW.own {a b : World} {ob : Option Nat} {vs : List Value} {cs : List (List ByteArray)} (h : RowsW a ob vs cs) (hg : a.grownBy b ob) {ob' : Option Nat} (ho : ob' = ob ∨ ob' = some a.heap.size) : RowsW b ob' vs cs :=
  ⟨h.1, fun i u c hu hc => by
    obtain ⟨g, n, cc, rfl, h1, h2, h3⟩ := h.2 i u c hu hc
    refine ⟨g, n, cc, rfl, ?_, ?_, Nat.lt_of_lt_of_le h3 hg.size⟩
    · obtain ⟨A, m, d, e, k1, k2, k3, k4⟩ := h1
      cases e
      refine ⟨_, _, _, rfl, k1, k2, k3, fun hn => ?_⟩
      obtain ⟨ad, e2, k5⟩ := k4 hn
      cases e2
      refine ⟨_, rfl, fun j x hx => hg.cell (k5 j x hx) ?_⟩
      rw [block_add]
      exact fun e => h2 e
    · rcases ho with rfl | rfl
      · exact h2
      · intro e; cases e; omega⟩
theorem RowsW.cir {w : World} {ob : Option Nat} {vs : List Value} {cs : List (List ByteArray)} {v : Value} (h : RowsW w ob vs cs) (hv : Sl w 1 v vs) : CirV w v cs :=
  ⟨vs, h.1, hv, fun i u c hu hc => by obtain ⟨_, _, _, _, h1, _⟩ := h.2 i u c hu hc; exact h1⟩
theorem infoStrs : (Tryz.prog.info? 22).map (fun i => (i.zero, i.size, i.bytes)) = some (some (.slice none 0 0), 1, 24) := by kernel_rfl
theorem appStrs {ops : Array Oper} {rest : List Oper} {o : Oper} {a : Act} {Q : Exit → Act → World → Prop} {w : World} (s x : Operand) (hgd : o.guard = none) (ho : o.op = .call { callee := .builtin .append, args := #[s, x], argTypes := #[69, 69] })
    {base n : Nat} {v vx : Value} {xs news : List Value} (hs : a.eval s = v) (hx : a.eval x = vx) (hown : w.ownsRow base 22 1 v n xs) (hr : Sl w 1 vx news) (h1 : ∀ u ∈ news, u.oneCell' = true)
    {N : Nat} (hN : n * 1 + news.length = N * 1) (hb : N ≤ 1048576) (hbase : base ≤ w.heap.size)
    (h : ∀ A c w', Appended base 22 1 v xs news w w' A N c → wpList Tryz.prog ops Q rest (a.put o.dst (.slice A N c)) w') : wpList Tryz.prog ops Q (o :: rest) a w := by
  obtain ⟨i, hi, hz0, hz1, hz2⟩ := info_parts infoStrs
  exact wpList_app w hgd s x 69 ho base 22 i (.slice none 0 0) 1 24 Tryz.underlying69 hi hz0 hz1 hz2 rfl (by decide) v n xs hs hown vx news hx hr h1 N hN (by omega) (by decide) hbase h
/-- What Circles answers. -/
def CircP (cs : List (List ByteArray)) (r : Int) (w : World) (e : Ending) (w' : World) : Prop := Below w.heap.size w w' ∧ ∃ v, e = .returned (.tuple #[v, .int .i64 r]) ∧ CirV w' v cs
theorem cir_nil (w : World) : CirV w (.slice none 0 0) [] := ⟨[], rfl, Sl.nil0 _ _, fun i u c hu => by simp at hu⟩
set_option maxHeartbeats 1000000 in
theorem circles_bad (r : Int) (hr : r = 3 ∨ r = 102) (v : Value) (ds : List De) (w : World) (h : DeedsV w v ds) (hs : ShortDs ds) (hc : checkDF ds = r) :
    Calls Tryz.prog 47 #[v] w (CircP [] r w) := by
  have HK := Lib.hid (checkDeeds_any v ds w h hs)
  rw [hc] at HK
  obtain ⟨A, c, rfl, _⟩ := h.shape
  have hmm := @run_makeMap Tryz.prog
  clear h hs hc
  rcases hr with rfl | rfl
  all_goals
    go_enter Tryz.func47, Tryz.ntmps47
    go_wp2_with fail
    refine HK.out.mono ?_
    rintro e w1 ⟨rfl, hb1⟩
    have HB := Lib.hid hb1
    clear hb1
    go_wp2
    go_ret2
    exact ⟨HB.out, _, rfl, cir_nil _⟩
theorem sortL_inc {l : List ByteArray} (h : l.Nodup) : IncS (sortL l) := by
  have e : bytesL (sortL l) = sortB l := bytes_of _
  unfold IncS IncB
  rw [e]
  have hn : (sortB l).Nodup := by
    unfold sortB
    rw [(List.mergeSort_perm _ _).nodup_iff]
    unfold bytesL
    rw [List.nodup_iff_pairwise_ne, List.pairwise_map]
    exact (List.nodup_iff_pairwise_ne.1 h).imp (fun hab e => hab (data_inj e))
  refine List.Pairwise.imp ?_ ((sortB_sorted l).and (List.nodup_iff_pairwise_ne.1 hn))
  rintro a b ⟨h1, h2⟩
  rcases List.le_iff_lt_or_eq.1 h1 with q | q
  · exact q
  · exact absurd q h2
/-- Who has been met in the circles so far. -/
def HadL (ds : List De) (k : Nat) (hl : List ByteArray) : Prop := ∀ s, s ∈ hl ↔ ∃ j r, j < k ∧ (allF ds)[j]? = some r ∧ s ∈ cirF ds r
theorem had_first {ds : List De} {k : Nat} {s : ByteArray} {hl : List ByteArray} (h : HadL ds k hl) (hk : (allF ds)[k]? = some s) : firstB ds s = !memB hl s := by
  rw [Bool.eq_iff_iff, first_iff hk, Bool.not_eq_true', memB_no, h s]
theorem had_skip {ds : List De} {k : Nat} {s : ByteArray} {hl : List ByteArray} (h : HadL ds k hl) (hk : (allF ds)[k]? = some s) (hm : s ∈ hl) : HadL ds (k + 1) hl := fun t => by
  rw [h t]
  constructor
  · rintro ⟨j, r, h1, h2, h3⟩; exact ⟨j, r, by omega, h2, h3⟩
  · rintro ⟨j, r, h1, h2, h3⟩
    rcases Nat.lt_succ_iff_lt_or_eq.1 h1 with q | q
    · exact ⟨j, r, q, h2, h3⟩
    · rw [q, hk] at h2
      cases h2
      obtain ⟨i, r', g1, g2, g3⟩ := (h s).1 hm
      have hr' := List.mem_of_getElem? g2
      have hs := List.mem_of_getElem? hk
      exact ⟨i, r', g1, g2, (cir_mem hr').2 (((cir_mem hr').1 g3).trans ((cir_mem hs).1 h3))⟩
theorem had_more {ds : List De} {k : Nat} {s : ByteArray} {hl ks : List ByteArray} (h : HadL ds k hl) (hk : (allF ds)[k]? = some s) (hks : ∀ t, t ∈ ks ↔ t ∈ cirF ds s) : HadL ds (k + 1) (hl ++ ks) := fun t => by
  rw [List.mem_append, h t, hks t]
  constructor
  · rintro (⟨j, r, h1, h2, h3⟩ | h3)
    · exact ⟨j, r, by omega, h2, h3⟩
    · exact ⟨k, s, by omega, hk, h3⟩
  · rintro ⟨j, r, h1, h2, h3⟩
    rcases Nat.lt_succ_iff_lt_or_eq.1 h1 with q | q
    · exact .inl ⟨j, r, q, h2, h3⟩
    · rw [q, hk] at h2
      cases h2
      exact .inr h3
theorem had_new {ds : List De} {k : Nat} {s t : ByteArray} {hl : List ByteArray} (h : HadL ds k hl) (_hk : (allF ds)[k]? = some s) (hm : ¬ s ∈ hl) (ht : Reach ds s t) : ¬ t ∈ hl := fun q => by
  obtain ⟨j, r, h1, h2, h3⟩ := (h t).1 q
  have hr := List.mem_of_getElem? h2
  exact hm ((h s).2 ⟨j, r, h1, h2, (cir_mem hr).2 (((cir_mem hr).1 h3).trans ht.symm)⟩)
set_option maxRecDepth 100000 in
set_option maxHeartbeats 8000000 in
theorem circles_good (v : Value) (ds : List De) (w : World) (h : DeedsV w v ds) (hs : ShortDs ds) (hc : checkDF ds = 0) :
    Calls Tryz.prog 47 #[v] w (CircP (circlesF ds) 0 w) := by
  have hf := checkDF_few hc
  have HK := Lib.hid (checkDeeds_any v ds w h hs)
  rw [hc] at HK
  have HMe := Lib.hid (fun w' (hw : Below w.heap.size w w') => met_any v ds w' (h.below hw) hf)
  have HAl := Lib.hid (fun w' (hw : Below w.heap.size w w') => all_any v ds w' (h.below hw) hf)
  have HDi := Lib.hid (fun bm s w' (hM : MetW w' bm ds (allF ds)) => distance_any bm ds s w' hM hf)
  have HLA := Lib.hid (allF_length hf)
  obtain ⟨A, c, rfl, _⟩ := h.shape
  have hmm := @run_makeMap Tryz.prog
  clear h hs hc hf
  go_enter Tryz.func47, Tryz.ntmps47
  go_wp2_with fail
  refine HK.out.mono ?_
  rintro e w1 ⟨rfl, hb1⟩
  have HB1 := Lib.hid hb1
  clear hb1 HK
  go_wp2_with fail
  refine (HMe.out _ HB1.out).mono ?_
  rintro e w2 ⟨rfl, hm2, hb2⟩
  have HM2 := Lib.hid hm2
  have HB2 := Lib.hid (HB1.out.trans (hb2.mono HB1.out.size))
  have hlt2 := hm2.lt
  have hle2 := HB1.out.size
  clear hm2 hb2 HMe
  obtain ⟨bm, hbm⟩ : ∃ bm, w1.heap.size = bm := ⟨_, rfl⟩
  rw [hbm] at HM2 hlt2 hle2 ⊢
  clear hbm HB1
  go_upto_region 7 with fail
  have hb3 := below_alloc' w2 (.map #[] 0)
  have HB3 := Lib.hid (HB2.out.trans (hb3.mono HB2.out.size))
  have HMh3 := Lib.hid (MapW.new w2)
  have HM3 := Lib.hid (HM2.out.below hb3)
  obtain ⟨bh, hbh⟩ : ∃ bh, w2.heap.size = bh := ⟨_, rfl⟩
  rw [hbh] at HMh3 hlt2 ⊢
  have hbhw : w.heap.size ≤ bh := by have := HB2.out.size; omega
  have hbh3 : bh + 1 = (w2.alloc (.map #[] 0)).heap.size := by simp [hbh]
  generalize w2.alloc (.map #[] 0) = w3 at *
  clear hb3 HM2 HB2 hmm hbh
  go_wp2_with fail
  refine (HAl.out _ HB3.out).mono ?_
  rintro e w4 ⟨v4, rfl, ho4, hb4⟩
  obtain ⟨A4, c4, rfl, _⟩ := own_shape ho4
  have HS4 := Lib.hid (Sl.of_own ho4)
  have HB4 := Lib.hid (HB3.out.trans (hb4.mono HB3.out.size))
  have HMh4 := Lib.hid (HMh3.out.below (by omega) hb4)
  have HM4 := Lib.hid (HM3.out.below hb4)
  have hn4 : bh < w4.heap.size := by have := hb4.size; omega
  have hbmn : bm ≠ bh := by omega
  clear ho4 hb4 HMh3 HM3 HB3 HAl hbh3
  go_wp2
  go_loopw [7, 23] (fun u7 ti wr => ∃ (k : Nat) (vs : List Value) (hl : List ByteArray), ti = .int .i64 k ∧ k ≤ (allF ds).length ∧ Hid (HadL ds k hl) ∧ Hid (MapW wr bh (trueKv hl)) ∧ Hid (wr.ownsRow w4.heap.size 22 1 u7 (circlesK ds k).length vs) ∧ Hid (RowsW wr u7.ownBlock vs (circlesK ds k)) ∧ Hid (Bx bh w4.heap.size w4 wr) ∧ Hid (Below w.heap.size w wr)) (fun _ ti _ => (allF ds).length - (intOf ti).toNat)
  case atStart => exact ⟨0, [], [], rfl, by omega, fun s => ⟨fun q => (by cases q), fun ⟨j, _, hj, _⟩ => absurd hj (Nat.not_lt_zero _)⟩, HMh4.out, World.ownsRow_nil _ _ _ _, ⟨rfl, fun i u c hu => by simp at hu⟩, Bx.refl _ _ _, HB4.out⟩
  case round =>
    clear HB4
    obtain ⟨k, vs, hl, rfl, hk, HH, HMh, HO, HRw, HBx, HB⟩ := hrel
    obtain ⟨wo, hwo⟩ : ∃ wo, wo = wr := ⟨_, rfl⟩
    rw [← hwo] at HMh HO HRw HBx HB ⊢
    clear hwo
    have HKc := Lib.hid (HBx.out.kc (Nat.le_refl _) HMh4.out)
    have hsz : w4.heap.size ≤ wo.heap.size := HBx.out.size
    obtain ⟨A7, c7, e7, _⟩ := own_shape HO.out
    subst e7
    by_cases hlt : k < (allF ds).length
    · have hki : (k : Int) < ((allF ds).length : Int) := by omega
      obtain ⟨_, _, _, e, _, _, _, hce⟩ := HS4.out.open2 (by decide)
      cases e
      obtain ⟨b0, o0, rfl, _, hce⟩ := hce (by omega)
      have hget : (allF ds)[k]? = some (allF ds)[k] := List.getElem?_eq_getElem hlt
      have c1 := HKc.out.2 _ _ (hce k (.string (allF ds)[k]) (by simp [namesV, hget]))
      have HG := Lib.hid hget
      have HCk := Lib.hid (circlesK_succ hget)
      have HLk := Lib.hid (show (circlesK ds k).length ≤ 900 by
        unfold circlesK
        rw [List.length_map]
        have h1 := List.length_filter_le (firstB ds) ((allF ds).take k)
        have h2 := List.length_take_le k (allF ds)
        have := HLA.out
        omega)
      clear hce hget
      generalize (allF ds)[k] = s at *
      have HFi := Lib.hid (had_first HH.out HG.out)
      have hlk := HMh.out.s.lookup (P := Tryz.prog) (t := 121) Tryz.underlying121 Tryz.underlying9 (Tryz.zeroValue4 _) s false
      rw [getM_true] at hlk
      cases hm : memB hl s with
      | true =>
        rw [hm, if_pos rfl] at hlk
        have HHn := Lib.hid (had_skip HH.out HG.out (memB_iff.1 hm))
        have HCn := Lib.hid (show circlesK ds (k + 1) = circlesK ds k by rw [HCk.out, HFi.out, hm]; simp)
        clear hm
        go_wp2
        exact ⟨⟨k + 1, vs, hl, by go_num, by omega, HHn.out, HMh.out, by rw [HCn.out]; exact HO.out, by rw [HCn.out]; exact HRw.out, HBx.out, HB.out⟩, by simp [intOf]; omega⟩
      | false =>
        rw [hm, if_neg (by decide)] at hlk
        have HNm := Lib.hid (memB_no.1 hm)
        have HCn := Lib.hid (show circlesK ds (k + 1) = circlesK ds k ++ [cirF ds s] by rw [HCk.out, HFi.out, hm]; simp)
        have HSa := Lib.hid (List.mem_of_getElem? HG.out)
        have HMr := Lib.hid (HM4.out.kc HKc.out (HBx.out.block bm (by have := HM4.out.lt; omega) hbmn))
        clear hm
        go_upto_region 12 with fail
        clear c1 hlk
        go_wp2_with fail
        refine (HDi.out bm s wo HMr.out).mono ?_
        rintro e w5 ⟨i, hi9, hdi, rfl, hm5, hb5⟩
        obtain ⟨w6, hrun, hr6, hg6, hs6⟩ := hm5.range (P := Tryz.prog) (t := 104) Tryz.underlying104
        have HB6 := Lib.hid (HB.out.trans ((hb5.grown hg6 hb5.size (fun j e => by cases e)).mono HB.out.size))
        have HX6 := Lib.hid ((Bx.refl bh wo.heap.size wo).below (hb5.grown hg6 hb5.size (fun j e => by cases e)) (Nat.le_refl _))
        have HMh6 := Lib.hid (HMh.out.below HMh.out.lt (hb5.grown hg6 hb5.size (fun j e => by cases e)))
        have HR6 := Lib.hid hr6
        have HDi6 := Lib.hid hdi
        have hbd5 := hm5.lt
        have HS6 : Hid (w5.heap.size + 1 ≤ w6.heap.size) := Lib.hid (by omega)
        have hw5 := hb5.size
        have HOn := Lib.hid ((dsI_qi (knownF ds) s i).1)
        have HKy := Lib.hid (fun t => (cir_keys (ds := ds) (s := s) (t := t) hdi))
        have HCi := Lib.hid (fun l hl hm => cir_is (ds := ds) (s := s) (i := i) (l := l) HSa.out hdi hl hm)
        have HLd := Lib.hid (show (dsI (knownF ds) s i).1.length ≤ 900 by
          have h1 := nodup_le HOn.out (ps := allF ds) (fun t ht => ((HKy.out t).1 ht).all HSa.out)
          rw [List.length_map] at h1
          have := HLA.out
          omega)
        clear hr6 hg6 hs6 hm5 hb5 hdi
        generalize (dsI (knownF ds) s i).1 = mA at *
        obtain ⟨br, hbr⟩ : ∃ br, w5.heap.size = br := ⟨_, rfl⟩
        rw [hbr] at HR6 HS6 hrun hbd5 hw5
        clear hbr
        obtain ⟨nr, hnr⟩ : ∃ nr, wo.heap.size = nr := ⟨_, rfl⟩
        rw [hnr] at HR6 hrun hbd5 hw5 hsz HX6 ⊢
        have hnr' := hnr
        have HEn := Lib.hid hnr
        clear hnr
        go_wp2
        clear hrun
        have HWn := Lib.hid (show w.heap.size ≤ nr by rw [← hnr']; exact HB.out.size) 
        have hbhnr : bh < nr := by omega
        have hnrb : nr ≤ br := hw5
        clear hnr'
        go_loopw [10] (fun u10 wi => ∃ (done rest : Sm), Hid ((done ++ rest).Perm mA) ∧ Hid (RangeW wi nr br (kvN mA) (kvN rest)) ∧ Hid (wi.ownsRow (br + 1) 9 1 u10 done.length (namesV (done.map (·.1)))) ∧ Hid (br + 1 ≤ wi.heap.size) ∧ Hid (MapW wi bh (trueKv (hl ++ done.map (·.1)))) ∧ Hid (Bx bh nr wo wi) ∧ Hid (Below w.heap.size w wi)) (fun _ wi => wi.rangeLeft nr br)
        case atStart => exact ⟨[], mA, List.Perm.refl _, HR6.out, World.ownsRow_nil _ _ _ _, HS6.out, by rw [List.map_nil, List.append_nil]; exact HMh6.out, HX6.out, HB6.out⟩
        case round =>
          clear HB6 HR6 HX6 HMh6 HS6
          obtain ⟨done, rest, HPm, HR, HOc, HSz, HMi, HX, HBi⟩ := hrel
          have HLn := Lib.hid (show done.length ≤ 900 by
            have h1 := HPm.out.length_eq
            rw [List.length_append] at h1
            have := HLd.out
            omega)
          obtain ⟨A5, c5, e5, _⟩ := own_shape HOc.out
          subst e5
          rcases HR.out.next (P := Tryz.prog) 0 with ⟨h0, hn⟩ | ⟨pk, rest', w', hperm, hn, hr', hg', hsz', hen⟩
          · have he : rest = [] := by
              cases rest with
              | nil => rfl
              | cons z l => simp [kvN] at h0
            have HPd := Lib.hid (show done.Perm mA by have := HPm.out; rw [he, List.append_nil] at this; exact this)
            clear h0 he
            go_wp2_with fail
            have hso := sort_own (br + 1) (.slice A5 done.length c5) (done.map (·.1)) wr (by rw [List.length_map]; exact HOc.out) (by have := HLn.out; rw [List.length_map]; omega)
            refine hso.mono ?_
            clear hso
            rintro e w7 ⟨rfl, ho7, hg7⟩
            have hnw : nr ≤ wr.heap.size := by have := HSz.out; omega
            have HB7 := Lib.hid (below_of_own hg7 HOc.out HBi.out (by have := HWn.out; omega))
            have HX7 := Lib.hid (HX.out.grown hg7 hnw (fun q e => .inl (by have := own_ge HOc.out e; omega)))
            have HM7 := Lib.hid (HMi.out.kept hg7 (fun e => by have := own_ge HOc.out e.symm; omega))
            have HKs := Lib.hid (fun t => show t ∈ done.map (·.1) ↔ Reach ds s t by rw [(HPd.out.map (·.1)).mem_iff]; exact HKy.out t)
            have hdn : (done.map (·.1)).Nodup := (HPd.out.map (·.1)).nodup_iff.2 HOn.out
            have HCe := Lib.hid (HCi.out (sortL (done.map (·.1))) (sortL_inc hdn) (fun t => by rw [mem_sortL, (HPd.out.map (·.1)).mem_iff]))
            have hdl : 0 < done.length := by
              have : s ∈ done.map (·.1) := (HKs.out s).2 (Reach.refl ds s)
              have := List.length_pos_of_mem this
              rwa [List.length_map] at this
            rw [HCe.out, List.length_map] at ho7
            obtain ⟨g, cg, eg⟩ := own_some ho7 hdl
            cases eg
            have hg5 := own_ge ho7 (g := g) rfl
            have hgl := own_lt ho7 (g := g) rfl
            have HS7 := Lib.hid (Sl.of_own ho7)
            have HO7 := Lib.hid (HX7.out.own (by rw [HEn.out]; exact Nat.le_refl _) HO.out hn4)
            have HRw7 := Lib.hid (HRw.out.kc (HX7.out.kc (by rw [HEn.out]; exact Nat.le_refl _) HMh.out))
            have HBx7 := Lib.hid (HBx.out.trans (HX7.out.mono hsz))
            have hsz7 : nr ≤ w7.heap.size := by have := hg7.size; omega
            have HOb := Lib.hid (fun q (e : (Value.slice A7 (circlesK ds k).length c7).ownBlock = some q) => (⟨own_ge HO.out e, by have := own_lt HO.out e; rw [HEn.out] at this; exact this⟩ : w4.heap.size ≤ q ∧ q < nr))
            clear ho7 hg7 hdn HX HX7 HB HBx HRw HO HMh HBi HMi
            have HSz8 := Lib.hid (show w7.heap.size < (w7.alloc (.cells #[.slice (some ⟨g, 0, none⟩) done.length c5] 22)).heap.size by simp)
            go_wp2_with (refine appStrs _ _ rfl rfl (by rfl) (by rfl) (HO7.out.alloc (.cells #[.slice (some ⟨g, 0, none⟩) done.length c5] 22)) (Sl.new (s := 1) w7 22 1 1 #[.slice (some ⟨g, 0, none⟩) done.length c5] rfl (Nat.le_refl _) (by decide)) (by simp [Value.oneCell']) (N := (circlesK ds k).length + 1) (by simp) (by have := HLk.out; omega) (by simp; omega) ?_; intro A9 c9 w9 hap)
            have hk8 := below_alloc' w7 (.cells #[.slice (some ⟨g, 0, none⟩) done.length c5] 22)
            have HRw8 : Hid (RowsW (w7.alloc (.cells #[.slice (some ⟨g, 0, none⟩) done.length c5] 22)) (Value.slice A7 (circlesK ds k).length c7).ownBlock (vs ++ [.slice (some ⟨g, 0, none⟩) done.length c5]) (circlesK ds k ++ [cirF ds s])) := Lib.hid (by
              have h8 := HRw7.out.kc ((KC.refl w7).below hk8)
              refine ⟨by rw [List.length_append, List.length_append, h8.1]; rfl, fun i u c hu hc => ?_⟩
              rcases Nat.lt_or_ge i vs.length with q | q
              · rw [List.getElem?_append_left q] at hu
                rw [List.getElem?_append_left (by rw [← h8.1]; exact q)] at hc
                exact h8.2 i u c hu hc
              · rw [List.getElem?_append_right q] at hu
                rw [List.getElem?_append_right (by rw [← h8.1]; exact q)] at hc
                rw [← h8.1] at hc
                have hi0 : i - vs.length = 0 := by
                  rcases Nat.eq_zero_or_pos (i - vs.length) with z | z
                  · exact z
                  · rw [List.getElem?_eq_none (by simp; omega)] at hu; cases hu
                rw [hi0] at hu hc
                simp at hu hc
                subst hu
                subst hc
                exact ⟨g, _, _, rfl, HS7.out.below hk8, fun e => by have := (HOb.out g e.symm).2; omega, by have := hk8.size; omega⟩)
            have HRw9 := Lib.hid (HRw8.out.own hap.grown (ob' := (Value.slice A9 ((circlesK ds k).length + 1) c9).ownBlock) hap.block)
            have HO9 := Lib.hid hap.own
            have HBx9 := Lib.hid ((HBx7.out.below hk8 (by omega)).grown hap.grown (by have := hk8.size; omega) (fun q e => .inl (HOb.out q e).1))
            have HB9 := Lib.hid (below_of_own hap.grown (HO7.out.alloc (.cells #[.slice (some ⟨g, 0, none⟩) done.length c5] 22)) (HB7.out.trans (hk8.mono HB7.out.size)) (by omega))
            have HM9 := Lib.hid ((HM7.out.alloc (.cells #[.slice (some ⟨g, 0, none⟩) done.length c5] 22)).kept hap.grown (fun e => by have := (HOb.out bh e.symm).1; omega))
            have HHn := Lib.hid (had_more HH.out HG.out (ks := done.map (·.1)) (fun t => by rw [HKs.out t, cir_mem HSa.out]))
            clear hap hk8
            go_wp2
            refine ⟨⟨k + 1, vs ++ [.slice (some ⟨g, 0, none⟩) done.length c5], hl ++ done.map (·.1), by go_num, by omega, HHn.out, HM9.out, ?_, ?_, HBx9.out, HB9.out⟩, by simp [intOf]; omega⟩
            · rw [HCn.out, List.length_append, List.length_singleton]
              exact HO9.out
            · rw [HCn.out]
              exact HRw9.out
          · obtain ⟨q, rest2, rfl, rfl, hp2⟩ := kvN_perm hperm
            have HPd := Lib.hid (show ((done ++ [q]) ++ rest2).Perm mA by
              refine List.Perm.trans ?_ HPm.out
              rw [List.append_assoc]
              exact (hp2.symm.append_left done))
            have HR2 := Lib.hid hr'
            have HLen := Lib.hid (show (kvN rest).length = (kvN rest2).length + 1 by rw [hperm.length_eq]; rfl)
            clear hperm hr' hp2
            obtain ⟨t, x⟩ := q
            simp only at hn hen HPd
            have HNt := Lib.hid (show ¬ t ∈ hl ++ done.map (·.1) by
              rw [List.mem_append]
              rintro (z | z)
              · refine had_new HH.out HG.out HNm.out ?_ z
                rw [← HKy.out t]
                refine ((HPd.out.map (·.1)).mem_iff (a := t)).1 ?_
                simp
              · have hnd := (HPd.out.map (·.1)).nodup_iff.2 HOn.out
                rw [List.map_append, List.map_append, List.append_assoc, List.nodup_append] at hnd
                exact hnd.2.2 t z t (by simp) rfl)
            have hnw : nr ≤ wr.heap.size := by have := HSz.out; omega
            have HO1 := Lib.hid (own_keep HOc.out hg' (fun g h1 h2 => by have := own_ge HOc.out h1; cases h2; omega))
            have HB1 := Lib.hid (HBi.out.grown hg' HBi.out.size (fun j e => by cases e; have := HWn.out; omega))
            have HX1 := Lib.hid (HX.out.grown hg' hnw (fun q e => by cases e; exact .inl hnrb))
            have HM1 := Lib.hid (HMi.out.kept hg' (by simp; omega))
            have HSz1 : Hid (br + 1 ≤ w'.heap.size) := by rw [hsz']; exact HSz.out
            have hn1 : nr ≤ w'.heap.size := by rw [hsz']; exact hnw
            clear hg' hsz'
            have HSa1 := Lib.hid (Sl.new (s := 1) w' 9 1 1 #[.string t] rfl (Nat.le_refl _) (by decide))
            have HOa := Lib.hid (HO1.out.alloc (.cells #[.string t] 9))
            have HBa := Lib.hid (HB1.out.alloc HB1.out.size (.cells #[.string t] 9))
            have HXa := Lib.hid (HX1.out.below (below_alloc' w' (.cells #[.string t] 9)) hn1)
            have HMa := Lib.hid (HM1.out.alloc (.cells #[.string t] 9))
            have HSza := Lib.hid (show br + 1 ≤ (w'.alloc (.cells #[.string t] 9)).heap.size from Nat.le_trans HSz1.out (below_alloc' w' _).size)
            have HUp := Lib.hid (fun wq (hM : MapW wq bh (trueKv (hl ++ done.map (·.1)))) => hM.s.update (P := Tryz.prog) (t := 121) Tryz.underlying121 Tryz.underlying9 t (.bool true) (by rw [getM_true, memB_no.2 HNt.out, if_neg (by decide)]))
            go_wp2_with (at_builtin; refine appStr _ _ rfl rfl rfl rfl HOa.out HSa1.out (by simp [Value.oneCell']) (N := done.length + 1) (by simp) (by have := HLn.out; omega) HSza.out ?_; intro A9 c9 w9 hap; have HM9 := Lib.hid (HMa.out.kept hap.grown (fun e => by have := own_ge HOa.out e.symm; omega)); have hup := HUp.out w9 HM9.out; have HP10 := Lib.hid (HM9.out.put t (.bool true)); have HG10 := Lib.hid (HM9.out.s.put_grown t (.bool true)); obtain ⟨w10, hw10⟩ : ∃ w10, mapPut w9 bh t (.bool true) = w10 := ⟨_, rfl⟩; rw [hw10] at hup HP10 HG10; clear hw10)
            have HB9 := Lib.hid (below_of_own hap.grown HOa.out HBa.out (by have := HWn.out; omega))
            have HO9 := Lib.hid hap.own
            have HSz9 := Lib.hid (Nat.le_trans HSza.out hap.grown.size)
            have HX9 := Lib.hid (HXa.out.grown hap.grown (by have := (below_alloc' w' (.cells #[.string t] 9)).size; omega) (fun q e => .inl (by have := own_ge HOa.out e; omega)))
            have HR9 := Lib.hid ((HR2.out.kept (World.grownBy_alloc w' (.cells #[.string t] 9) none) (by simp) (by simp)).kept hap.grown (fun e => by have h1 := own_ge HOa.out e.symm; omega) (fun e => by have h1 := own_ge HOa.out e.symm; omega))
            have HR10 := Lib.hid (HR9.out.kept HG10.out (by simp; omega) (by simp; omega))
            have HO10 := Lib.hid (own_keep HO9.out HG10.out (fun g h1 h2 => by have := own_ge HO9.out h1; cases h2; omega))
            have HX10 := Lib.hid (HX9.out.grown HG10.out (by have := HSz9.out; omega) (fun q e => by cases e; exact .inr rfl))
            have HB10 := Lib.hid (HB9.out.grown HG10.out HB9.out.size (fun j e => by cases e; exact hbhw))
            have HSz10 := Lib.hid (Nat.le_trans HSz9.out HG10.out.size)
            have HM10 := Lib.hid (show MapW w10 bh (trueKv (hl ++ (done ++ [(t, x)]).map (·.1))) by
              have e : trueKv (hl ++ (done ++ [(t, x)]).map (·.1)) = trueKv (hl ++ done.map (·.1)) ++ [(t, .bool true)] := by unfold trueKv; simp
              rw [e]
              exact HP10.out)
            clear hap
            go_wp2
            go_roundw
            case rel => exact ⟨done ++ [(t, x)], rest2, HPd.out, HR10.out, by rw [List.map_append, namesV_append, List.length_append]; exact HO10.out, HSz10.out, HM10.out, HX10.out, HB10.out⟩
            case measure => rw [HR10.out.left_eq, HR.out.left_eq, HLen.out]; omega
    · have HEn := Lib.hid (circlesK_all (ds := ds) (k := k) (by omega))
      go_wp2
      go_ret2
      refine ⟨HB.out, _, rfl, ?_⟩
      rw [← HEn.out]
      exact HRw.out.cir (Sl.of_own HO.out)
theorem circles_any (v : Value) (ds : List De) (w : World) (h : DeedsV w v ds) (hs : ShortDs ds) :
    Calls Tryz.prog 47 #[v] w (CircP (if checkDF ds = 0 then circlesF ds else []) (checkDF ds) w) := by
  rcases checkDF_cases ds with hc | hc | hc
  · have := circles_bad 3 (.inl rfl) v ds w h hs hc
    rw [hc, if_neg (by decide)]
    exact this
  · have := circles_bad 102 (.inr rfl) v ds w h hs hc
    rw [hc, if_neg (by decide)]
    exact this
  · have := circles_good v ds w h hs hc
    rw [hc, if_pos rfl]
    exact this
end
end Go.Proofs.YtdmcopjbckelmaaGreatDoor
