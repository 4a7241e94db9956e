/- metro.copied: a ladder with units of its own. A book that the call has made: its two rows are written in place. Plain: what a merge does to the counts, and to the bounds. A book that the call has made: the state, and bridge's specification. bridge: its walk. Begun. bridge, behind its two names: begun. A book within a merge: stores into its two rows. Plain: a merge step by step, and its bounds. bridge, behind its two names: the values of its two signs. An error of theirs, or of the ratio. bridge, the values found: helpers. -/
import Derived.Test.YtmibpncmebhbjaaDoorP5
namespace Go.Proofs.YtmibpncmebhbjaaDoor
section
open Go Go.RowKit Go.Shelf

theorem own_other {w : World} {base : Nat} {e : TypeId} {size n : Nat} {v : Value} {xs : List Value} (h : w.ownsRow base e size v n xs) (p : Addr) (hp : p.block < base) (x : Value) : (w.setCell p x).ownsRow base e size v n xs := by
  obtain ⟨hl, ⟨rfl, rfl⟩ | ⟨g, cap, cur, rfl, hg, hh, r⟩⟩ := h
  · exact ⟨hl, .inl ⟨rfl, rfl⟩⟩
  · refine ⟨hl, .inr ⟨g, cap, cur, rfl, hg, ?_, r⟩⟩
    rw [← hh]
    simp only [World.setCell, Array.getElem?_modify]
    rw [if_neg (by omega)]
theorem infoUnit : (Tryd.prog.info? 78).map (fun i => (i.zero, i.size, i.bytes)) = some (some (.agg #[.string ⟨#[]⟩, .int .i64 0]), 2, 24) := by kernel_rfl
theorem unitsV_one (us : List Un) : ∀ u ∈ unitsV us, u.oneCell' = true := by
  intro u hu
  obtain ⟨x, _, hx⟩ := List.mem_flatMap.1 hu
  simp only [unV, List.mem_cons, List.not_mem_nil, or_false] at hx
  rcases hx with rfl | rfl <;> rfl
section
variable {a : Act} {w : World} {ops : Array Oper} {o : Oper} {Q : Exit → Act → World → Prop} {K : Act → World → Prop} {E : Prop}
theorem stepUnit (s x : Operand) (hgd : o.guard = none) (ho : o.op = .call { callee := .builtin .append, args := #[s, x], argTypes := #[31, 31] })
    {base n : Nat} {v vx : Value} {xs news : List Value} (hs : a.eval s = v) (hx : a.eval x = vx) (hown : w.ownsRow base 78 2 v n xs) (hr : Sl w 2 vx news) (h1 : ∀ u ∈ news, u.oneCell' = true)
    {N : Nat} (hN : n * 2 + news.length = N * 2) (hb : N ≤ 4398046511104) (hbase : base ≤ w.heap.size)
    (h : ∀ A c w', Appended base 78 2 v xs news w w' A N c → K (a.put o.dst (.slice A N c)) w') : if Region.wanted o (yielded ops a.tmps) = true then Oper.wp Tryd.prog o a w K Q else E := by
  obtain ⟨i, hi, hz0, hz1, hz2⟩ := info_parts infoUnit
  exact step_app w hgd s x 31 ho base 78 i (.agg #[.string ⟨#[]⟩, .int .i64 0]) 2 24 Tryd.underlying31 hi hz0 hz1 hz2 rfl (by decide) v n xs hs hown vx news hx hr h1 N hN (by omega) (by decide) hbase h
end

set_option maxRecDepth 100000 in
set_option maxHeartbeats 1000000 in
theorem copied_any (nm : ByteArray) (A : Option Addr) (c : Nat) (us : List Un) (w : World) (hsl : Sl w 2 (.slice A us.length c) (unitsV us)) (hlen : us.length ≤ 4398046511104) :
    Calls Tryd.prog 98 #[.agg #[.string nm, .slice A us.length c]] w fun e w' => ∃ A' c', e = .returned (.agg #[.string nm, .slice A' us.length c']) ∧ Below w.heap.size w w' ∧ w'.ownsRow w.heap.size 78 2 (.slice A' us.length c') us.length (unitsV us) := by
  have Y0 := (Cel.new w 33 #[.string nm, .slice A us.length c]).alloc (.cells #[.string ⟨#[]⟩, .slice none 0 0] 33)
  have Y1 := Cel.new (w.alloc (.cells #[.string nm, .slice A us.length c] 33)) 33 #[.string ⟨#[]⟩, .slice none 0 0]
  simp only [World.size_alloc] at Y1
  have hw0 : Below w.heap.size w ((w.alloc (.cells #[.string nm, .slice A us.length c] 33)).alloc (.cells #[.string ⟨#[]⟩, .slice none 0 0] 33)) := (below_alloc' _ _).alloc (by simp) _
  obtain ⟨W, hW⟩ : ∃ W, (w.alloc (.cells #[.string nm, .slice A us.length c] 33)).alloc (.cells #[.string ⟨#[]⟩, .slice none 0 0] 33) = W := ⟨_, rfl⟩
  rw [hW] at Y0 Y1 hw0
  have HS := Lib.hid (hsl.below hw0)
  have HY0 := Lib.hid Y0
  have HY1 := Lib.hid Y1
  have HW0 := Lib.hid hw0
  have h0 := Y0.cell 0 (.string nm) rfl
  have h1 := Y0.cell 1 (.slice A us.length c) rfl
  have h2 := Y1.frozen 0
  have h3 := Y1.frozen 1
  have hl := Y1.lt
  have hle := hw0.size
  have HUl := Lib.hid (unitsV_length us)
  clear hsl Y0 Y1 hw0
  go_enter Tryd.func98, Tryd.ntmps98
  go_upto_region 1 with fail
  go_region_held3 (fun w' => w'.cell? ⟨w.heap.size, 0, none⟩ = some (.string nm) ∧ w'.cell? ⟨w.heap.size, 1, none⟩ = some (.slice A us.length c))
    (first | go_keep | exact ⟨(HY0.out.below HY0.out.lt hbl).cell 0 _ rfl, (HY0.out.below HY0.out.lt hbl).cell 1 _ rfl⟩) (first
    | (refine stepUnit (.const (.slice none 0 0)) (.tmp 6) rfl rfl (by rfl) (by rfl) (World.ownsRow_nil _ W.heap.size _ _) HS.out.drew (unitsV_one _) (N := us.length) (by rw [HUl.out]; omega) (by omega) (by exact Nat.le_refl _) ?_; intro A1 c1 w1 hap; have hbl : Below W.heap.size W w1 := below_grown (grown_undrew hap.grown) (by simp [Value.ownBlock]); have y5 := HY1.out.below HY1.out.lt hbl; have q0 := y5.cell 0 (.string ⟨#[]⟩) rfl; have q1 := y5.cell 1 (.slice none 0 0) rfl; have q2 := y5.frozen 0; have q3 := y5.frozen 1; have HAP := Lib.hid hap; clear hap))
  go_wp2
  have k5 := (HY1.out.below HY1.out.lt hbl).set2 (.string nm) (.slice A1 us.length c1)
  have f0 := k5.cell 0 (.string nm) rfl
  have f1 := k5.cell 1 (.slice A1 us.length c1) rfl
  have ho := own_base (own_other (own_other HAP.out.own ⟨w.heap.size + 1, 0, none⟩ hl (.string nm)) ⟨w.heap.size + 1, 1, none⟩ hl (.slice A1 us.length c1)) hle
  exact bodyPost_ret (v := .agg #[.string nm, .slice A1 us.length c1]) (by simp [results, Tryd.results98, go_sem, f0, f1]) rfl
    ⟨A1, c1, rfl, ((below_then HW0.out hbl).setCell (p := ⟨w.heap.size + 1, 0, none⟩) (by simp) _).setCell (p := ⟨w.heap.size + 1, 1, none⟩) (by simp) _, by simpa using ho⟩
end

section
open Go Go.RowKit Go.Shelf

/-- A slice whose block is of type t. -/
def SlT (w : World) (t : TypeId) (s : Nat) (v : Value) (xs : List Value) : Prop :=
  Sl w s v xs ∧ ∀ A n c, v = .slice A n c → 0 < n → ∃ b o C, A = some ⟨b, o, none⟩ ∧ w.heap[b]? = some (.cells C t (0, 0))
theorem SlT.of_own {w : World} {base : Nat} {e : TypeId} {size n : Nat} {v : Value} {xs : List Value} (h : w.ownsRow base e size v n xs) : SlT w e size v xs := by
  refine ⟨Sl.of_own h, ?_⟩
  obtain ⟨hl, ⟨rfl, rfl⟩ | ⟨g, cap, cur, rfl, hg, hh, r⟩⟩ := h
  · intro A n c e hn; cases e; omega
  · intro A n c e hn; cases e; exact ⟨g, 0, cur, rfl, hh⟩
theorem SlT.below {w w' : World} {t : TypeId} {s : Nat} {v : Value} {xs : List Value} (h : SlT w t s v xs) (hb : Below w.heap.size w w') : SlT w' t s v xs := by
  refine ⟨h.1.below hb, fun A n c e hn => ?_⟩
  obtain ⟨b, o, C, hA, hh⟩ := h.2 A n c e hn
  exact ⟨b, o, C, hA, (hb.block _ (Array.getElem?_eq_some_iff.1 hh).1).trans hh⟩
/-- A store into a block of another type. -/
theorem SlT.setOther {w : World} {t t' : TypeId} {s : Nat} {v : Value} {xs : List Value} (h : SlT w t s v xs) {p : Addr} {C : Array Value} (hp : w.heap[p.block]? = some (.cells C t' (0, 0))) (hne : t ≠ t') (x : Value) : SlT (w.setCell p x) t s v xs := by
  obtain ⟨h1, h2⟩ := h
  have hkeep : ∀ (b : Nat) (C' : Array Value), w.heap[b]? = some (Obj.cells C' t (0, 0)) → (w.setCell p x).heap[b]? = w.heap[b]? := by
    intro b C' hb
    have : p.block ≠ b := by
      intro e; rw [e, hb] at hp; cases hp; exact hne rfl
    simp only [World.setCell, Array.getElem?_modify]
    rw [if_neg this]
  refine ⟨?_, fun A n c e hn => ?_⟩
  · obtain ⟨A, n, c, rfl, hl, hc, hm, hcell⟩ := h1
    refine ⟨A, n, c, rfl, hl, hc, hm, fun hn => ?_⟩
    obtain ⟨ad, e, hce⟩ := hcell hn
    obtain ⟨b, o, C', hA, hh⟩ := h2 A n c rfl hn
    rw [e] at hA; cases hA
    refine ⟨_, e, fun j u hu => ?_⟩
    rw [← hce j u hu, add_plain]
    simp only [World.cell?, hkeep b C' hh]
  · obtain ⟨b, o, C', hA, hh⟩ := h2 A n c e hn
    exact ⟨b, o, C', hA, (hkeep b C' hh).trans hh⟩
/-- All blocks that lay, but g and f, lie as they lay. -/
structure Keeps2 (g f : Nat) (w w' : World) : Prop where
  os : w'.os = w.os
  tape : w'.tape = w.tape
  output : w'.output = w.output
  size : w.heap.size ≤ w'.heap.size
  block : ∀ i, i < w.heap.size → i ≠ g → i ≠ f → w'.heap[i]? = w.heap[i]?
end

section
open Go

/-- The labels behind a merge: old becomes new. -/
def relab (grp : List Nat) (old new : Nat) : List Nat := grp.map fun g => if g = old then new else g
theorem relab_length (grp : List Nat) (old new : Nat) : (relab grp old new).length = grp.length := by simp [relab]
theorem countP_relab (grp : List Nat) (old new l : Nat) (hne : old ≠ new) :
    (relab grp old new).countP (fun g => g == l) = if l = old then 0 else if l = new then grp.countP (fun g => g == old) + grp.countP (fun g => g == new) else grp.countP (fun g => g == l) := by
  induction grp with
  | nil => simp [relab]
  | cons g grp ih =>
    simp only [relab, List.map_cons, List.countP_cons] at ih ⊢
    rw [ih]
    by_cases h1 : g = old <;> by_cases h2 : l = old <;> by_cases h3 : l = new <;> by_cases h4 : g = l <;> by_cases h5 : g = new <;> simp_all <;> omega
theorem pow_merge (a b : Nat) (ha : 1 ≤ a) (hb : 1 ≤ b) : (2 ^ a - 2) + ((2 ^ a - 2) + 2 + (2 ^ b - 2)) ≤ 2 ^ (a + b) - 2 := by
  have h1 : 2 ^ 1 ≤ 2 ^ a := Nat.pow_le_pow_right (by decide) ha
  have h2 : 2 ^ 1 ≤ 2 ^ b := Nat.pow_le_pow_right (by decide) hb
  rw [Nat.pow_add]
  generalize 2 ^ a = x at *
  generalize 2 ^ b = y at *
  obtain ⟨p, rfl⟩ : ∃ p, x = p + 2 := ⟨x - 2, by omega⟩
  obtain ⟨q, rfl⟩ : ∃ q, y = q + 2 := ⟨y - 2, by omega⟩
  have : (p + 2) * (q + 2) = p * q + 2 * p + 2 * q + 4 := by grind
  rw [this]
  generalize p * q = z at *
  omega
end

section
open Go Go.RowKit Go.Shelf

/-- A book whose rows the call owns, from block base on. -/
structure BookO (w : World) (base Bk bm : Nat) (lv gv fv : Value) (st : St) : Prop where
  blk : Cel w Bk 114 #[lv, .map (some bm), gv, fv]
  hB : base ≤ Bk
  hm : base ≤ bm
  lads : ∃ ps : List (La × Value), ps.map (·.1) = st.ls ∧ SlT w 33 2 lv (ladCells ps) ∧ ∀ p ∈ ps, SlT w 78 2 p.2 (unitsV p.1.us)
  place : MapS w bm (placeM st.ls 0)
  grp : w.ownsRow base 3 1 gv st.ls.length (grpV st.grp)
  fac : ∃ ps : List (Value × Value), w.ownsRow base 121 2 fv st.ls.length (facCells ps) ∧ ps.length = st.fac.length ∧
    ∀ k (h : k < ps.length) (h' : k < st.fac.length), PV w (.agg #[ps[k].1, ps[k].2]) st.fac[k] (st.lim k)
theorem BookO.view {w : World} {base Bk bm : Nat} {lv gv fv : Value} {st : St} (h : BookO w base Bk bm lv gv fv st) : BookV w Bk bm lv gv fv st := by
  obtain ⟨ps, e, h1, h2⟩ := h.lads
  obtain ⟨qs, h3, h4, h5⟩ := h.fac
  exact ⟨h.blk, ⟨ps, e, h1.1, fun p hp => (h2 p hp).1⟩, h.place, Sl.of_own h.grp, ⟨qs, Sl.of_own h3, h4, h5⟩⟩

/-- The value of a bridge: how many smallest units of B one smallest unit of A is. -/
def ownQ (N D a b : Int) : Rat := ((N : Rat) * (b : Rat)) / ((D : Rat) * (a : Rat))
def brI (st : St) (b : Br) : Nat := idxI st.ls b.A
def brJ (st : St) (b : Br) : Nat := idxI st.ls b.B
def ladOf (st : St) (k : Nat) : ByteArray × List Un := match st.ls[k]? with | some l => (l.nm, l.us) | none => (⟨#[]⟩, [])
def brVa (st : St) (b : Br) : Int × Int := valueF (ladOf st (brI st b)).1 (ladOf st (brI st b)).2 b.SA
def brVb (st : St) (b : Br) : Int × Int := valueF (ladOf st (brJ st b)).1 (ladOf st (brJ st b)).2 b.SB
def brOwn (st : St) (b : Br) : Rat := ownQ b.N b.D (brVa st b).1 (brVb st b).1
/-- The errors ahead of the merge. -/
def brE (st : St) (b : Br) : Int :=
  if firstF [idxE st.ls b.A, idxE st.ls b.B] = 0 then firstF [(brVa st b).2, (brVb st b).2, needF (isR b.N b.D && decide (0 < b.N)) 2]
  else firstF [idxE st.ls b.A, idxE st.ls b.B]
def facAt (st : St) (k : Nat) : Rat := st.fac.getD k 1
def grpAt (st : St) (k : Nat) : Nat := st.grp.getD k 0
def brWay (st : St) (b : Br) : Rat := (facAt st (brI st b))⁻¹ * brOwn st b * facAt st (brJ st b)
/-- The book behind a merge of the first k ladders. -/
def brFac (st : St) (b : Br) (k : Nat) : List Rat := st.fac.mapIdx fun n q => if n < k ∧ grpAt st n = grpAt st (brI st b) then q * brWay st b else q
def brGrp (st : St) (b : Br) (k : Nat) : List Nat := st.grp.mapIdx fun n g => if n < k ∧ g = grpAt st (brI st b) then grpAt st (brJ st b) else g
def bridgeF (st : St) (b : Br) : Int × St :=
  if brE st b = 0 then
    if grpAt st (brI st b) = grpAt st (brJ st b) then
      (needF (decide (facAt st (brI st b) * (facAt st (brJ st b))⁻¹ * (brOwn st b)⁻¹ = 1)) 12, st)
    else (0, { st with grp := brGrp st b st.ls.length, fac := brFac st b st.ls.length })
  else (brE st b, st)
end

section
open Go Go.RowKit Go.Shelf
attribute [local go_sem] rrV

/-- own: the reduced product of a bridge's numbers. -/
theorem own_pv (N D a b : Int) (hN : 1 ≤ N) (hN2 : N ≤ 9223372036854775807) (hD : 1 ≤ D) (hD2 : D ≤ 9223372036854775807) (ha : 1 ≤ a) (ha2 : a ≤ 9223372036854775807) (hb : 1 ≤ b) (hb2 : b ≤ 9223372036854775807) (s1 s2 : Value) (w : World)
    (h1 : Sl w 1 s1 (u64s [N.natAbs, b.natAbs])) (h2 : Sl w 1 s2 (u64s [D.natAbs, a.natAbs])) :
    Calls Tryd.prog 121 #[.agg #[s1, s2]] w fun e w' => ∃ r, e = .returned r ∧ Below w.heap.size w w' ∧ PV w' r (ownQ N D a b) 2 := by
  have hU : Ones [N.natAbs, b.natAbs] := Ones.cons (by omega) (by omega) (Ones.cons (by omega) (by omega) Ones.nil)
  have hV : Ones [D.natAbs, a.natAbs] := Ones.cons (by omega) (by omega) (Ones.cons (by omega) (by omega) Ones.nil)
  refine (reduced_any (.agg #[s1, s2]) _ _ w ⟨s1, s2, rfl, h1, h2⟩ hU hV (by simp) (by simp)).mono ?_
  rintro e w' ⟨r, X, Y, rfl, hb', hp, hr, hx, hy⟩
  refine ⟨r, rfl, hb', X, Y, hp, ?_, by simpa using hx, by simpa using hy⟩
  have e : val [N.natAbs, b.natAbs] [D.natAbs, a.natAbs] = ownQ N D a b := by
    obtain ⟨N', rfl⟩ : ∃ k : Nat, N = k := ⟨N.toNat, by omega⟩
    obtain ⟨D', rfl⟩ : ∃ k : Nat, D = k := ⟨D.toNat, by omega⟩
    obtain ⟨a', rfl⟩ : ∃ k : Nat, a = k := ⟨a.toNat, by omega⟩
    obtain ⟨b', rfl⟩ : ∃ k : Nat, b = k := ⟨b.toNat, by omega⟩
    simp [val, prodN, ownQ]; rfl
  rw [← e]; exact hr

set_option maxRecDepth 100000 in
set_option maxHeartbeats 1000000 in
/-- A name that is no ladder's. -/
theorem bridge_noname (base Bk bm : Nat) (lv gv fv : Value) (st : St) (b : Br) (w : World) (hb : BookO w base Bk bm lv gv fv st) (he : firstF [idxE st.ls b.A, idxE st.ls b.B] ≠ 0) :
    Calls Tryd.prog 99 #[.pointer (some ⟨Bk, 0, none⟩), .agg #[.string b.A, .string b.SA, .string b.B, .string b.SB, .int .i64 b.N, .int .i64 b.D]] w fun e w' => e = .returned (.int .i64 (brE st b)) ∧ Below w.heap.size w w' := by
  have hE : brE st b = firstF [idxE st.ls b.A, idxE st.ls b.B] := if_neg he
  rw [hE]
  have Y := Cel.new w 83 #[.string b.A, .string b.SA, .string b.B, .string b.SB, .int .i64 b.N, .int .i64 b.D]
  have hw0 := below_alloc' w (.cells #[.string b.A, .string b.SA, .string b.B, .string b.SB, .int .i64 b.N, .int .i64 b.D] 83)
  obtain ⟨W, hW⟩ : ∃ W, w.alloc (.cells #[.string b.A, .string b.SA, .string b.B, .string b.SB, .int .i64 b.N, .int .i64 b.D] 83) = W := ⟨_, rfl⟩
  rw [hW] at Y hw0
  have hv := hb.view.below hw0
  have HI1 := Lib.hid (index_any Bk bm lv gv fv st.ls b.A W hv.blk hv.place)
  have HI2 := Lib.hid (index_any Bk bm lv gv fv st.ls b.B W hv.blk hv.place)
  have H3 : Hid (∀ w : World, Calls Tryd.prog 102 #[.slice (some ⟨w.heap.size, 0, none⟩) 2 2] (w.alloc (.cells #[.int .i64 (idxE st.ls b.A), .int .i64 (idxE st.ls b.B)] 24)) fun e w' => e = .returned (.int .i64 (firstF [idxE st.ls b.A, idxE st.ls b.B])) ∧ w.alloc (.cells #[.int .i64 (idxE st.ls b.A), .int .i64 (idxE st.ls b.B)] 24) = w') := fun w => first2_any _ _ _ w rfl
  have a0 := Y.cell 0 (.string b.A) rfl
  have a2 := Y.cell 2 (.string b.B) rfl
  have HW0 := Lib.hid hw0
  clear hv hb Y hw0 hE
  generalize firstF [idxE st.ls b.A, idxE st.ls b.B] = q at *
  generalize idxE st.ls b.A = ea at *
  generalize idxE st.ls b.B = eb at *
  have dq : (q == 0) = false := beq_eq_false_iff_ne.2 he
  go_enter Tryd.func99, Tryd.ntmps99
  go_wp2_with (first | (go_at_call_of 101 (Value.string b.A); refine HI1.out.mono ?_; rintro e w1 ⟨rfl, rfl⟩) | (go_at_call_of 101 (Value.string b.B); refine HI2.out.mono ?_; rintro e w1 ⟨rfl, rfl⟩) | (go_at_call 102; refine (H3.out _).mono ?_; rintro e w1 ⟨rfl, rfl⟩))
  go_ret
  exact ⟨rfl, HW0.out.alloc HW0.out.size _⟩
end

section
open Go Go.RowKit Go.Shelf
attribute [local go_sem] rrV

theorem firstF2_zero {a b : Int} (h : firstF [a, b] = 0) : a = 0 ∧ b = 0 := by
  by_cases h1 : a = 0
  · by_cases h2 : b = 0
    · exact ⟨h1, h2⟩
    · simp [firstF, h1, h2] at h
  · simp [firstF, h1] at h

/-- A ladder of a book, in memory. -/
theorem BookV.lad {w : World} {Bk bm : Nat} {lv gv fv : Value} {st : St} (h : BookV w Bk bm lv gv fv st) {k : Nat} (hk : k < st.ls.length) :
    ∃ b o A' c' c, lv = .slice (some ⟨b, o, none⟩) st.ls.length c ∧ b < w.heap.size ∧ w.cell? ⟨b, o + k * 2, none⟩ = some (.string (ladOf st k).1) ∧ w.cell? ⟨b, o + k * 2 + 1, none⟩ = some (.slice A' (ladOf st k).2.length c') ∧ Sl w 2 (.slice A' (ladOf st k).2.length c') (unitsV (ladOf st k).2) ∧ (((ladOf st k).1.size : Int) ≤ 9223372036854775807) := by
  obtain ⟨A, c, e, _, _, hc⟩ := h.lads.open
  obtain ⟨b, o, A', c', rfl, hb, e0, e1, hs⟩ := hc k hk
  have hl : ladOf st k = (st.ls[k].nm, st.ls[k].us) := by simp [ladOf, hk]
  rw [hl]
  exact ⟨b, o, A', c', c, e, hb, e0, e1, hs, st.ls[k].hn⟩
end

section
open Go Go.RowKit Go.Shelf

/-- A book whose rows the call owns, its bounds any. -/
structure BookL (w : World) (base Bk bm : Nat) (lv gv fv : Value) (ls : List La) (grp : List Nat) (fac : List Rat) (lim : Nat → Nat) : Prop where
  blk : Cel w Bk 114 #[lv, .map (some bm), gv, fv]
  hB : base ≤ Bk
  hm : base ≤ bm
  lads : ∃ ps : List (La × Value), ps.map (·.1) = ls ∧ SlT w 33 2 lv (ladCells ps) ∧ ∀ p ∈ ps, SlT w 78 2 p.2 (unitsV p.1.us)
  place : MapS w bm (placeM ls 0)
  grp : w.ownsRow base 3 1 gv ls.length (grpV grp)
  fac : ∃ ps : List (Value × Value), w.ownsRow base 121 2 fv ls.length (facCells ps) ∧ ps.length = fac.length ∧
    ∀ k (h : k < ps.length) (h' : k < fac.length), PV w (.agg #[ps[k].1, ps[k].2]) fac[k] (lim k)
theorem BookO.toL {w : World} {base Bk bm : Nat} {lv gv fv : Value} {st : St} (h : BookO w base Bk bm lv gv fv st) : BookL w base Bk bm lv gv fv st.ls st.grp st.fac st.lim :=
  ⟨h.blk, h.hB, h.hm, h.lads, h.place, h.grp, h.fac⟩
theorem BookL.below {w w' : World} {base Bk bm : Nat} {lv gv fv : Value} {ls : List La} {grp : List Nat} {fac : List Rat} {lim : Nat → Nat} (h : BookL w base Bk bm lv gv fv ls grp fac lim) (hb : Below w.heap.size w w') :
    BookL w' base Bk bm lv gv fv ls grp fac lim := by
  obtain ⟨ps, e, h1, h2⟩ := h.lads
  obtain ⟨qs, h3, h4, h5⟩ := h.fac
  exact ⟨h.blk.below h.blk.lt hb, h.hB, h.hm, ⟨ps, e, h1.below hb, fun p hp => (h2 p hp).below hb⟩, h.place.below h.place.lt hb, own_below h.grp hb, ⟨qs, own_below h3 hb, h4, fun k a b => (h5 k a b).below hb⟩⟩
theorem BookL.mono {w : World} {base Bk bm : Nat} {lv gv fv : Value} {ls : List La} {grp : List Nat} {fac : List Rat} {lim lim' : Nat → Nat} (h : BookL w base Bk bm lv gv fv ls grp fac lim) (hl : ∀ k, k < fac.length → lim k ≤ lim' k) :
    BookL w base Bk bm lv gv fv ls grp fac lim' := by
  obtain ⟨qs, h3, h4, h5⟩ := h.fac
  exact ⟨h.blk, h.hB, h.hm, h.lads, h.place, h.grp, qs, h3, h4, fun k a b => (h5 k a b).mono (hl k b)⟩
/-- A row in a block of another type. -/
theorem own_otherT {w : World} {base : Nat} {e t' : TypeId} {size n : Nat} {v : Value} {xs : List Value} (h : w.ownsRow base e size v n xs) {p : Addr} {C : Array Value} (hp : w.heap[p.block]? = some (.cells C t' (0, 0))) (hne : e ≠ t') (x : Value) : (w.setCell p x).ownsRow base e size v n xs := by
  obtain ⟨hl, ⟨rfl, rfl⟩ | ⟨g, cap, cur, rfl, hg, hh, r⟩⟩ := h
  · exact ⟨hl, .inl ⟨rfl, rfl⟩⟩
  · refine ⟨hl, .inr ⟨g, cap, cur, rfl, hg, ?_, r⟩⟩
    have : p.block ≠ g := by
      intro e'; rw [e', hh] at hp; cases hp; exact hne rfl
    rw [← hh]
    simp only [World.setCell, Array.getElem?_modify]
    rw [if_neg this]
theorem Cel.otherT {w : World} {B : Nat} {t t' : TypeId} {vs C : Array Value} (h : Cel w B t vs) {p : Addr} (hp : w.heap[p.block]? = some (.cells C t' (0, 0))) (hne : t ≠ t') (x : Value) : Cel (w.setCell p x) B t vs := by
  refine h.other (fun e => ?_) x
  have h' : w.heap[B]? = some (.cells vs t (0, 0)) := h
  rw [e, h'] at hp; cases hp; exact hne rfl
theorem PV.setOther {w : World} {v : Value} {q : Rat} {lim : Nat} (h : PV w v q lim) {p : Addr} {old : Value} (hp : w.cell? p = some old) (hne : ∀ m : Int, old ≠ .int .u64 m) (x : Value) : PV (w.setCell p x) v q lim := by
  have hne' : ∀ (l : List Nat), ∀ u ∈ u64s l, u ≠ old := by
    intro l u hu e
    obtain ⟨m, _, rfl⟩ := List.mem_map.1 hu
    exact hne _ e.symm
  obtain ⟨U, D, ⟨s1, s2, e, h1, h2⟩, h3⟩ := h
  exact ⟨U, D, ⟨s1, s2, e, h1.setCell hp (hne' _) x, h2.setCell hp (hne' _) x⟩, h3⟩
theorem own_block {w : World} {base g o : Nat} {e : TypeId} {size n c : Nat} {xs : List Value} (h : w.ownsRow base e size (.slice (some ⟨g, o, none⟩) n c) n xs) : o = 0 ∧ ∃ C, w.heap[g]? = some (.cells C e (0, 0)) := by
  obtain ⟨hl, ⟨h1, h2⟩ | ⟨g', cap, cur, h1, hg, hh, r⟩⟩ := h
  · cases h1
  · cases h1; exact ⟨rfl, cur, hh⟩
theorem BookL.setGrp {w : World} {base Bk bm : Nat} {lv fv : Value} {ls : List La} {grp : List Nat} {fac : List Rat} {lim : Nat → Nat} {g n c : Nat} (h : BookL w base Bk bm lv (.slice (some ⟨g, 0, none⟩) n c) fv ls grp fac lim) (hn : n = ls.length) (k m : Nat) (hk : k < grp.length) :
    BookL (w.setCell ⟨g, k, none⟩ (.int .i64 (m : Int))) base Bk bm lv (.slice (some ⟨g, 0, none⟩) n c) fv ls (grp.set k m) fac lim := by
  subst hn
  obtain ⟨_, C, hC⟩ := own_block h.grp
  obtain ⟨ps, e, h1, h2⟩ := h.lads
  obtain ⟨qs, h3, h4, h5⟩ := h.fac
  have hC' : w.heap[(⟨g, k, none⟩ : Addr).block]? = some (.cells C 3 (0, 0)) := hC
  have hcell : w.cell? ⟨g, k, none⟩ = some (.int .i64 (grp[k] : Nat)) := by
    have := h.grp.cells (g := g) rfl k (.int .i64 (grp[k] : Nat)) (by simp [grpV, hk])
    rwa [add_plain, Nat.zero_add] at this
  refine ⟨h.blk.otherT hC' (by decide) _, h.hB, h.hm, ⟨ps, e, h1.setOther hC' (by decide) _, fun p hp => (h2 p hp).setOther hC' (by decide) _⟩, h.place.setCell _ _, ?_, ⟨qs, own_otherT h3 hC' (by decide) _, h4, fun k' a b => (h5 k' a b).setOther hcell (fun m e => by cases e) _⟩⟩
  have := (h.grp.stored k (.int .i64 (m : Int))).1
  rwa [show (grpV grp).set k (.int .i64 (m : Int)) = grpV (grp.set k m) from by simp [grpV, List.map_set]] at this
theorem facCells_set (ps : List (Value × Value)) (k : Nat) (a b : Value) : ((facCells ps).set (k * 2) a).set (k * 2 + 1) b = facCells (ps.set k (a, b)) := by
  induction ps generalizing k with
  | nil => simp [facCells]
  | cons u us ih =>
    have e : facCells (u :: us) = u.1 :: u.2 :: facCells us := rfl
    cases k with
    | zero => rw [e]; rfl
    | succ k =>
      rw [e, show (k + 1) * 2 = k * 2 + 1 + 1 from by omega]
      simp only [List.set_cons_succ, ih]
      rfl
theorem BookL.setFac {w : World} {base Bk bm : Nat} {lv gv : Value} {ls : List La} {grp : List Nat} {fac : List Rat} {lim lim' : Nat → Nat} {f n c : Nat} (h : BookL w base Bk bm lv gv (.slice (some ⟨f, 0, none⟩) n c) ls grp fac lim) (hn : n = ls.length) (k : Nat) (hk : k < fac.length) {a b : Value} {q : Rat} {l : Nat}
    (hp : PV w (.agg #[a, b]) q l) (hl : l ≤ lim' k) (hl' : ∀ j, j ≠ k → lim j ≤ lim' j) :
    BookL ((w.setCell ⟨f, k * 2, none⟩ a).setCell ⟨f, k * 2 + 1, none⟩ b) base Bk bm lv gv (.slice (some ⟨f, 0, none⟩) n c) ls grp (fac.set k q) lim' := by
  subst hn
  obtain ⟨ps, e, h1, h2⟩ := h.lads
  obtain ⟨qs, h3, h4, h5⟩ := h.fac
  obtain ⟨_, C, hC⟩ := own_block h3
  have hC' : w.heap[(⟨f, k * 2, none⟩ : Addr).block]? = some (.cells C 121 (0, 0)) := hC
  have hkq : k < qs.length := by omega
  obtain ⟨A1, n1, c1, A2, n2, c2, hsh⟩ := (h5 k hkq hk).shape
  obtain ⟨g0, g1⟩ := facCells_get (ps := qs) (k := k) hkq
  have e0 := h3.cells (g := f) rfl _ _ g0
  have e1 := h3.cells (g := f) rfl _ _ g1
  rw [add_plain, Nat.zero_add] at e0 e1
  injection hsh with hsh
  have hs : qs[k].1 = .slice A1 n1 c1 ∧ qs[k].2 = .slice A2 n2 c2 := by simpa using congrArg Array.toList hsh
  obtain ⟨hs1, hs2⟩ := hs
  have e1' : (w.setCell ⟨f, k * 2, none⟩ a).cell? ⟨f, k * 2 + 1, none⟩ = some qs[k].2 := by
    rw [World.cell?_setCell_other]
    · exact e1
    · intro e; injection e with _ e; omega
  obtain ⟨r1, _⟩ := h3.stored (k * 2) a
  obtain ⟨_, D, hD⟩ := own_block r1
  have hD' : (w.setCell ⟨f, k * 2, none⟩ a).heap[(⟨f, k * 2 + 1, none⟩ : Addr).block]? = some (.cells D 121 (0, 0)) := hD
  have r2 := (r1.stored (k * 2 + 1) b).1
  rw [facCells_set] at r2
  have keep : ∀ {v : Value} {q : Rat} {l : Nat}, PV w v q l → PV ((w.setCell ⟨f, k * 2, none⟩ a).setCell ⟨f, k * 2 + 1, none⟩ b) v q l := fun hv =>
    (hv.setOther e0 (fun m e => by rw [hs1] at e; cases e) a).setOther e1' (fun m e => by rw [hs2] at e; cases e) b
  refine ⟨(h.blk.otherT hC' (by decide) _).otherT hD' (by decide) _, h.hB, h.hm, ⟨ps, e, (h1.setOther hC' (by decide) _).setOther hD' (by decide) _, fun p hp => ((h2 p hp).setOther hC' (by decide) _).setOther hD' (by decide) _⟩, (h.place.setCell _ _).setCell _ _, own_otherT (own_otherT h.grp hC' (by decide) _) hD' (by decide) _, ⟨_, r2, by simp [h4], fun j ha hb => ?_⟩⟩
  by_cases hj : j = k
  · subst hj
    simpa using keep (hp.mono hl)
  · have := keep ((h5 j (by simpa using ha) (by simpa using hb)).mono (hl' j hj))
    simpa [List.getElem_set, show ¬ k = j from fun e => hj e.symm] using this
theorem BookL.grpCell {w : World} {base Bk bm : Nat} {lv fv : Value} {ls : List La} {grp : List Nat} {fac : List Rat} {lim : Nat → Nat} {g n c : Nat} (h : BookL w base Bk bm lv (.slice (some ⟨g, 0, none⟩) n c) fv ls grp fac lim) (hn : n = ls.length) {k : Nat} (hk : k < grp.length) :
    w.cell? ⟨g, k, none⟩ = some (.int .i64 (grp[k] : Nat)) ∧ w.frozen? ⟨g, k, none⟩ = false := by
  subst hn
  refine ⟨?_, h.grp.frozenAt k⟩
  have := h.grp.cells (g := g) rfl k (.int .i64 (grp[k] : Nat)) (by simp [grpV, hk])
  rwa [add_plain, Nat.zero_add] at this
theorem BookL.facCell {w : World} {base Bk bm : Nat} {lv gv : Value} {ls : List La} {grp : List Nat} {fac : List Rat} {lim : Nat → Nat} {f n c : Nat} (h : BookL w base Bk bm lv gv (.slice (some ⟨f, 0, none⟩) n c) ls grp fac lim) (hn : n = ls.length) {k : Nat} (hk : k < fac.length) :
    ∃ A1 n1 c1 A2 n2 c2, w.cell? ⟨f, k * 2, none⟩ = some (.slice A1 n1 c1) ∧ w.cell? ⟨f, k * 2 + 1, none⟩ = some (.slice A2 n2 c2) ∧ PV w (.agg #[.slice A1 n1 c1, .slice A2 n2 c2]) fac[k] (lim k) ∧ w.frozen? ⟨f, k * 2, none⟩ = false ∧ w.frozen? ⟨f, k * 2 + 1, none⟩ = false := by
  subst hn
  obtain ⟨qs, h3, h4, h5⟩ := h.fac
  have hkq : k < qs.length := by omega
  obtain ⟨A1, n1, c1, A2, n2, c2, hsh⟩ := (h5 k hkq hk).shape
  obtain ⟨g0, g1⟩ := facCells_get (ps := qs) (k := k) hkq
  have e0 := h3.cells (g := f) rfl _ _ g0
  have e1 := h3.cells (g := f) rfl _ _ g1
  rw [add_plain, Nat.zero_add] at e0 e1
  injection hsh with hsh
  have hs : qs[k].1 = .slice A1 n1 c1 ∧ qs[k].2 = .slice A2 n2 c2 := by simpa using congrArg Array.toList hsh
  obtain ⟨hs1, hs2⟩ := hs
  have hp := h5 k hkq hk
  rw [hs1] at e0 hp
  rw [hs2] at e1 hp
  exact ⟨A1, n1, c1, A2, n2, c2, e0, e1, hp, h3.frozenAt _, h3.frozenAt _⟩
end

section
open Go

theorem brGrp_zero (st : St) (b : Br) : brGrp st b 0 = st.grp := by
  refine List.ext_getElem (by simp [brGrp]) fun n h1 h2 => ?_
  simp [brGrp]
theorem brFac_zero (st : St) (b : Br) : brFac st b 0 = st.fac := by
  refine List.ext_getElem (by simp [brFac]) fun n h1 h2 => ?_
  simp [brFac]
theorem brGrp_length (st : St) (b : Br) (k : Nat) : (brGrp st b k).length = st.grp.length := by simp [brGrp]
theorem brFac_length (st : St) (b : Br) (k : Nat) : (brFac st b k).length = st.fac.length := by simp [brFac]
theorem grpAt_get (st : St) {k : Nat} (h : k < st.grp.length) : grpAt st k = st.grp[k] := by simp [grpAt, List.getD, h]
theorem facAt_get (st : St) {k : Nat} (h : k < st.fac.length) : facAt st k = st.fac[k] := by simp [facAt, List.getD, h]
theorem brGrp_get (st : St) (b : Br) (k n : Nat) (h : n < st.grp.length) : (brGrp st b k)[n]'(by rw [brGrp_length]; exact h) = if n < k ∧ grpAt st n = grpAt st (brI st b) then grpAt st (brJ st b) else grpAt st n := by
  simp only [brGrp, List.getElem_mapIdx, grpAt_get st h]
theorem brFac_get (st : St) (b : Br) (k n : Nat) (h : n < st.fac.length) : (brFac st b k)[n]'(by rw [brFac_length]; exact h) = if n < k ∧ grpAt st n = grpAt st (brI st b) then facAt st n * brWay st b else facAt st n := by
  simp only [brFac, List.getElem_mapIdx, facAt_get st h]
theorem brGrp_skip (st : St) (b : Br) (k : Nat) (hk : grpAt st k ≠ grpAt st (brI st b)) : brGrp st b (k + 1) = brGrp st b k := by
  refine List.ext_getElem (by simp [brGrp_length]) fun n h1 h2 => ?_
  rw [brGrp_length] at h1
  rw [brGrp_get st b _ n h1, brGrp_get st b _ n h1]
  by_cases e : n = k
  · subst e; simp [hk]
  · have : (n < k + 1) ↔ (n < k) := by omega
    simp only [this]
theorem brFac_skip (st : St) (b : Br) (k : Nat) (hk : grpAt st k ≠ grpAt st (brI st b)) : brFac st b (k + 1) = brFac st b k := by
  refine List.ext_getElem (by simp [brFac_length]) fun n h1 h2 => ?_
  rw [brFac_length] at h1
  rw [brFac_get st b _ n h1, brFac_get st b _ n h1]
  by_cases e : n = k
  · subst e; simp [hk]
  · have : (n < k + 1) ↔ (n < k) := by omega
    simp only [this]
theorem brGrp_step (st : St) (b : Br) (k : Nat) (hk : grpAt st k = grpAt st (brI st b)) : (brGrp st b k).set k (grpAt st (brJ st b)) = brGrp st b (k + 1) := by
  refine List.ext_getElem (by simp [brGrp_length]) fun n h1 h2 => ?_
  rw [brGrp_length] at h2
  rw [brGrp_get st b _ n h2, List.getElem_set]
  by_cases e : k = n
  · subst e; simp [hk]
  · have : (n < k + 1) ↔ (n < k) := by omega
    rw [if_neg e, brGrp_get st b _ n h2]; simp only [this]
theorem brFac_step (st : St) (b : Br) (k : Nat) (hk : grpAt st k = grpAt st (brI st b)) : (brFac st b k).set k (facAt st k * brWay st b) = brFac st b (k + 1) := by
  refine List.ext_getElem (by simp [brFac_length]) fun n h1 h2 => ?_
  rw [brFac_length] at h2
  rw [brFac_get st b _ n h2, List.getElem_set]
  by_cases e : k = n
  · subst e; simp [hk]
  · have : (n < k + 1) ↔ (n < k) := by omega
    rw [if_neg e, brFac_get st b _ n h2]; simp only [this]
/-- The bounds within a merge. -/
def brLim (st : St) (b : Br) (k n : Nat) : Nat := if n < k ∧ grpAt st n = grpAt st (brI st b) then st.lim n + (st.lim (brI st b) + 2 + st.lim (brJ st b)) else st.lim n
theorem brLim_zero (st : St) (b : Br) (n : Nat) : brLim st b 0 n = st.lim n := by simp [brLim]
theorem brLim_other (st : St) (b : Br) (k n : Nat) (h : n ≠ k) : brLim st b (k + 1) n = brLim st b k n := by
  unfold brLim
  have : (n < k + 1) ↔ (n < k) := by omega
  simp only [this]
theorem brLim_skip (st : St) (b : Br) (k n : Nat) (hk : grpAt st k ≠ grpAt st (brI st b)) : brLim st b (k + 1) n = brLim st b k n := by
  by_cases e : n = k
  · subst e; simp [brLim, hk]
  · exact brLim_other st b k n e
theorem brLim_at (st : St) (b : Br) (k : Nat) (hk : grpAt st k = grpAt st (brI st b)) : brLim st b (k + 1) k = st.lim k + (st.lim (brI st b) + 2 + st.lim (brJ st b)) ∧ brLim st b k k = st.lim k := by simp [brLim, hk]
theorem brGrp_at (st : St) (b : Br) (k n : Nat) (h : n < st.grp.length) (hn : k ≤ n ∨ grpAt st n ≠ grpAt st (brI st b)) : (brGrp st b k)[n]'(by rw [brGrp_length]; exact h) = grpAt st n := by
  rw [brGrp_get st b k n h, if_neg]
  rintro ⟨h1, h2⟩
  rcases hn with hn | hn
  · omega
  · exact hn h2
theorem brFac_at (st : St) (b : Br) (k : Nat) (h : k < st.fac.length) : (brFac st b k)[k]'(by rw [brFac_length]; exact h) = facAt st k := by
  rw [brFac_get st b k k h, if_neg]; omega
theorem brGrp_all (st : St) (b : Br) (h : st.grp.length = st.ls.length) : brGrp st b st.ls.length = relab st.grp (grpAt st (brI st b)) (grpAt st (brJ st b)) := by
  refine List.ext_getElem (by simp [brGrp_length, relab_length]) fun n h1 h2 => ?_
  rw [brGrp_length] at h1
  rw [brGrp_get st b _ n h1]
  simp [relab, grpAt_get st h1, show n < st.ls.length by omega]
theorem cnt_pos {grp : List Nat} {k : Nat} (h : k < grp.length) : 1 ≤ cnt grp k := by
  unfold cnt
  rw [Nat.one_le_iff_ne_zero, Ne, List.countP_eq_zero]
  intro hf
  have := hf grp[k] (List.getElem_mem _)
  simp [List.getD, h] at this
theorem brLim_le (st : St) (b : Br) (hg : Good st) (hi : brI st b < st.ls.length) (hj : brJ st b < st.ls.length) (hne : grpAt st (brI st b) ≠ grpAt st (brJ st b)) (n : Nat) (hn : n < st.fac.length) :
    brLim st b st.ls.length n ≤ ({ st with grp := brGrp st b st.ls.length, fac := brFac st b st.ls.length } : St).lim n := by
  have hgl := hg.grp
  have hfl := hg.fac
  have ci := cnt_pos (grp := st.grp) (k := brI st b) (by omega)
  have cj := cnt_pos (grp := st.grp) (k := brJ st b) (by omega)
  have key : cnt (brGrp st b st.ls.length) n = if grpAt st n = grpAt st (brI st b) ∨ grpAt st n = grpAt st (brJ st b) then cnt st.grp (brI st b) + cnt st.grp (brJ st b) else cnt st.grp n := by
    have hget : (brGrp st b st.ls.length).getD n 0 = if grpAt st n = grpAt st (brI st b) then grpAt st (brJ st b) else grpAt st n := by
      have := brGrp_get st b st.ls.length n (by omega)
      simp [List.getD, brGrp_length, show n < st.grp.length by omega, this, show n < st.ls.length by omega]
    unfold cnt
    rw [hget, brGrp_all st b hgl]
    by_cases h1 : grpAt st n = grpAt st (brI st b)
    · rw [if_pos h1, if_pos (.inl h1), countP_relab _ _ _ _ hne, if_neg (fun e => hne e.symm), if_pos rfl]; rfl
    · rw [if_neg h1, countP_relab _ _ _ _ hne, if_neg h1]
      by_cases h2 : grpAt st n = grpAt st (brJ st b)
      · rw [if_pos h2, if_pos (.inr h2)]; rfl
      · rw [if_neg h2, if_neg (by simp [h1, h2])]; rfl
  unfold brLim St.lim
  simp only
  rw [key]
  by_cases h1 : grpAt st n = grpAt st (brI st b)
  · rw [if_pos ⟨by omega, h1⟩, if_pos (.inl h1)]
    have : cnt st.grp n = cnt st.grp (brI st b) := by unfold cnt; unfold grpAt at h1; rw [h1]
    rw [this]
    exact pow_merge _ _ ci cj
  · rw [if_neg (fun h => h1 h.2)]
    by_cases h2 : grpAt st n = grpAt st (brJ st b)
    · rw [if_pos (.inr h2)]
      have : cnt st.grp n = cnt st.grp (brJ st b) := by unfold cnt; unfold grpAt at h2; rw [h2]
      rw [this]
      have := pow_merge _ _ ci cj
      omega
    · rw [if_neg (by simp [h1, h2])]
      exact Nat.le_refl _
theorem good_merge (st : St) (b : Br) (hg : Good st) (hj : brJ st b < st.ls.length) : Good { st with grp := brGrp st b st.ls.length, fac := brFac st b st.ls.length } := by
  refine ⟨by simp [brGrp_length, hg.grp], by simp [brFac_length, hg.fac], hg.few, hg.ok, fun g hgm => ?_⟩
  obtain ⟨n, hn, rfl⟩ := List.getElem_of_mem hgm
  have hn' : n < st.grp.length := by simpa [brGrp_length] using hn
  simp only
  rw [brGrp_get st b _ n hn']
  have hlab : ∀ k, k < st.ls.length → grpAt st k < st.ls.length := by
    intro k hk
    rw [grpAt_get st (by rw [hg.grp]; exact hk)]
    exact hg.lab _ (List.getElem_mem _)
  split
  · exact hlab _ hj
  · exact hlab _ (by rw [← hg.grp]; exact hn')
theorem good_bridge (st : St) (b : Br) (hg : Good st) : Good (bridgeF st b).2 := by
  unfold bridgeF
  split
  · rename_i h
    split
    · exact hg
    · refine good_merge st b hg (idxI_lt ?_)
      unfold brE at h
      split at h
      · rename_i h'; exact (firstF2_zero h').2
      · rename_i h'; exact absurd h h'
  · exact hg
theorem BookL.toO {w : World} {base Bk bm : Nat} {lv gv fv : Value} {st : St} {lim : Nat → Nat} (h : BookL w base Bk bm lv gv fv st.ls st.grp st.fac lim) (hl : ∀ k, k < st.fac.length → lim k ≤ st.lim k) : BookO w base Bk bm lv gv fv st := by
  obtain ⟨qs, h3, h4, h5⟩ := h.fac
  exact ⟨h.blk, h.hB, h.hm, h.lads, h.place, h.grp, qs, h3, h4, fun k a b => (h5 k a b).mono (hl k b)⟩
end

section
open Go Go.RowKit Go.Shelf
attribute [local go_sem] rrV

set_option maxRecDepth 100000 in
set_option maxHeartbeats 2000000 in
theorem bridge_err (base Bk bm : Nat) (lv gv fv : Value) (st : St) (b : Br) (w : World) (hb : BookO w base Bk bm lv gv fv st) (he : firstF [idxE st.ls b.A, idxE st.ls b.B] = 0)
    (i j : Nat) (hii : idxI st.ls b.A = i) (hjj : idxI st.ls b.B = j) (ni nj : ByteArray) (ui uj : List Un) (hli : ladOf st i = (ni, ui)) (hlj : ladOf st j = (nj, uj))
    (va ea vb eb : Int) (hva : valueF ni ui b.SA = (va, ea)) (hvb : valueF nj uj b.SB = (vb, eb)) (r p : Bool) (hr : isR b.N b.D = r) (hp : decide (0 < b.N) = p) (q : Int) (hq : firstF [ea, eb, needF (r && p) 2] = q) (hq0 : (q != 0) = true) :
    Calls Tryd.prog 99 #[.pointer (some ⟨Bk, 0, none⟩), .agg #[.string b.A, .string b.SA, .string b.B, .string b.SB, .int .i64 b.N, .int .i64 b.D]] w fun e w' => e = .returned (.int .i64 q) ∧ Below w.heap.size w w' := by
  obtain ⟨hea, heb⟩ := firstF2_zero he
  have hi := idxI_lt hea
  have hj := idxI_lt heb
  have Y := Cel.new w 83 #[.string b.A, .string b.SA, .string b.B, .string b.SB, .int .i64 b.N, .int .i64 b.D]
  have hw0 := below_alloc' w (.cells #[.string b.A, .string b.SA, .string b.B, .string b.SB, .int .i64 b.N, .int .i64 b.D] 83)
  obtain ⟨W, hW⟩ : ∃ W, w.alloc (.cells #[.string b.A, .string b.SA, .string b.B, .string b.SB, .int .i64 b.N, .int .i64 b.D] 83) = W := ⟨_, rfl⟩
  rw [hW] at Y hw0
  have hv := hb.view.below hw0
  have HI1 := Lib.hid (index_any Bk bm lv gv fv st.ls b.A W hv.blk hv.place)
  have HI2 := Lib.hid (index_any Bk bm lv gv fv st.ls b.B W hv.blk hv.place)
  have H3 : Hid (∀ w : World, Calls Tryd.prog 102 #[.slice (some ⟨w.heap.size, 0, none⟩) 2 2] (w.alloc (.cells #[.int .i64 0, .int .i64 0] 24)) fun e w' => e = .returned (.int .i64 0) ∧ w.alloc (.cells #[.int .i64 0, .int .i64 0] 24) = w') := fun w => first2_any _ _ _ w rfl
  obtain ⟨bl, ol, Ai, ci, cl, hlv, hbl, e0, e1, hsi, hni⟩ := hv.lad hi
  obtain ⟨bl', ol', Aj, cj, cl', hlv', _, e2, e3, hsj, hnj⟩ := hv.lad hj
  rw [hlv] at hlv'
  cases hlv'
  rw [hii] at HI1 hi e0 e1 hsi hni
  rw [hjj] at HI2 hj e2 e3 hsj hnj
  rw [hli] at e0 e1 hsi hni
  rw [hlj] at e2 e3 hsj hnj
  rw [hea] at HI1
  rw [heb] at HI2
  have HV1 : Hid (∀ w', Below W.heap.size W w' → Calls Tryd.prog 29 #[.agg #[.string ni, .slice Ai ui.length ci], .string b.SA] w' fun e w'' => e = .returned (.tuple #[.int .i64 va, .int .i64 ea]) ∧ Below w'.heap.size w' w'') := by
    intro w' hb'
    have := value_any ni hni (.agg #[.string ni, .slice Ai ui.length ci]) ui b.SA w' ⟨_, _, _, rfl, hsi.below hb'⟩
    rwa [hva] at this
  have HV2 : Hid (∀ w', Below W.heap.size W w' → Calls Tryd.prog 29 #[.agg #[.string nj, .slice Aj uj.length cj], .string b.SB] w' fun e w'' => e = .returned (.tuple #[.int .i64 vb, .int .i64 eb]) ∧ Below w'.heap.size w' w'') := by
    intro w' hb'
    have := value_any nj hnj (.agg #[.string nj, .slice Aj uj.length cj]) uj b.SB w' ⟨_, _, _, rfl, hsj.below hb'⟩
    rwa [hvb] at this
  have HRR : Hid (∀ w', Calls Tryd.prog 23 #[.agg #[.int .i64 b.N, .int .i64 b.D]] w' fun e w'' => e = .returned (.bool r) ∧ Below w'.heap.size w' w'') := by
    intro w'
    have := isRatio_any b.N b.D w' b.hN.1 b.hN.2 b.hD.1 b.hD.2
    rwa [hr] at this
  have HQ1 : Hid (r = true → firstF [ea, eb, needF p 2] = q) := fun h => by rw [h] at hq; simpa using hq
  have HQ0 : Hid (¬ r = true → firstF [ea, eb, needF false 2] = q) := fun h => by rw [Bool.eq_false_iff.2 h] at hq; simpa using hq
  have a0 := Y.cell 0 (.string b.A) rfl
  have a1 := Y.cell 1 (.string b.SA) rfl
  have a2 := Y.cell 2 (.string b.B) rfl
  have a3 := Y.cell 3 (.string b.SB) rfl
  have a4 := Y.cell 4 (.int .i64 b.N) rfl
  have a5 := Y.cell 5 (.int .i64 b.D) rfl
  have hW1 := below_alloc' W (.cells #[.int .i64 0, .int .i64 0] 24)
  have hlvc := hv.blk.cell 0 _ rfl
  rw [hlv] at hlvc
  have HK : Hid (∀ w', Below W.heap.size W w' → w'.cell? ⟨Bk, 0, none⟩ = some (.slice (some ⟨bl, ol, none⟩) st.ls.length cl) ∧ w'.cell? ⟨bl, ol + i * 2, none⟩ = some (.string ni) ∧ w'.cell? ⟨bl, ol + i * 2 + 1, none⟩ = some (.slice Ai ui.length ci) ∧
      w'.cell? ⟨bl, ol + j * 2, none⟩ = some (.string nj) ∧ w'.cell? ⟨bl, ol + j * 2 + 1, none⟩ = some (.slice Aj uj.length cj) ∧
      w'.cell? ⟨w.heap.size, 1, none⟩ = some (.string b.SA) ∧ w'.cell? ⟨w.heap.size, 3, none⟩ = some (.string b.SB) ∧ w'.cell? ⟨w.heap.size, 4, none⟩ = some (.int .i64 b.N) ∧ w'.cell? ⟨w.heap.size, 5, none⟩ = some (.int .i64 b.D)) := by
    intro w' hb'
    exact ⟨below_cell hb' hlvc, below_cell hb' e0, below_cell hb' e1, below_cell hb' e2, below_cell hb' e3, below_cell hb' a1, below_cell hb' a3, below_cell hb' a4, below_cell hb' a5⟩
  have HW0 := Lib.hid hw0
  clear hv hw0 he hea heb hsi hsj hni hnj e0 e1 e2 e3 hli hlj hii hjj hva hvb hlvc hb hlv hr hbl a1 a3 a4 a5 Y hq
  go_enter Tryd.func99, Tryd.ntmps99
  go_wp2_with (first | (go_at_call_of 101 (Value.string b.A); refine HI1.out.mono ?_; rintro e w1 ⟨rfl, rfl⟩) | (go_at_call_of 101 (Value.string b.B); refine HI2.out.mono ?_; rintro e w1 ⟨rfl, rfl⟩) | (go_at_call 102; refine (H3.out _).mono ?_; rintro e w1 ⟨rfl, rfl⟩))
  obtain ⟨V, hV⟩ : ∃ V, W.alloc (.cells #[.int .i64 0, .int .i64 0] 24) = V := ⟨_, rfl⟩
  rw [hV] at hW1 ⊢
  obtain ⟨k0, k1, k2, k3, k4, k5, k6, k7, k8⟩ := HK.out V hW1
  have HW1 := Lib.hid hW1
  clear hW1 a0 a2
  go_region_held3 (fun w' => w'.cell? ⟨Bk, 0, none⟩ = some (.slice (some ⟨bl, ol, none⟩) st.ls.length cl) ∧ w'.cell? ⟨bl, ol + i * 2, none⟩ = some (.string ni) ∧ w'.cell? ⟨bl, ol + i * 2 + 1, none⟩ = some (.slice Ai ui.length ci) ∧ w'.cell? ⟨w.heap.size, 1, none⟩ = some (.string b.SA))
    (first | go_keep | (obtain ⟨l0, l1, l2, l3, l4, l5, l6, l7, l8⟩ := HK.out _ hbl1; exact ⟨l0, l1, l2, l5⟩)) (first
    | (go_at_call 29; refine (HV1.out _ (below_drew HW1.out)).mono ?_; rintro e w1 ⟨rfl, hb1⟩; have hbl1 : Below W.heap.size W w1 := below_then HW1.out (below_undrew hb1)))
  obtain ⟨l0, l1, l2, l3, l4, l5, l6, l7, l8⟩ := HK.out w1 hbl1
  clear k0 k1 k2 k3 k4 k5 k6 k7 k8
  have HB1 := Lib.hid hbl1
  clear hbl1
  go_wp2
  go_region_held3 (fun w' => w'.cell? ⟨Bk, 0, none⟩ = some (.slice (some ⟨bl, ol, none⟩) st.ls.length cl) ∧ w'.cell? ⟨bl, ol + j * 2, none⟩ = some (.string nj) ∧ w'.cell? ⟨bl, ol + j * 2 + 1, none⟩ = some (.slice Aj uj.length cj) ∧ w'.cell? ⟨w.heap.size, 3, none⟩ = some (.string b.SB))
    (first | go_keep | (obtain ⟨m0, m1, m2, m3, m4, m5, m6, m7, m8⟩ := HK.out _ hbl2; exact ⟨m0, m3, m4, m6⟩)) (first
    | (go_at_call 29; refine (HV2.out _ (below_drew HB1.out)).mono ?_; rintro e w2 ⟨rfl, hb2⟩; have hbl2 : Below W.heap.size W w2 := below_then HB1.out (below_undrew hb2)))
  obtain ⟨m0, m1, m2, m3, m4, m5, m6, m7, m8⟩ := HK.out w2 hbl2
  clear l0 l1 l2 l3 l4 l5 l6 l7 l8
  have HB2 := Lib.hid hbl2
  clear hbl2
  go_wp2_with (first | (go_at_call 23; refine (HRR.out w2).mono ?_; rintro e w3 ⟨rfl, hb3⟩; have hbl3 : Below W.heap.size W w3 := below_then HB2.out hb3; obtain ⟨n0, n1, n2, n3, n4, n5, n6, n7, n8⟩ := HK.out _ hbl3; have HB3 := Lib.hid hbl3; clear hbl3 m0 m1 m2 m3 m4 m5 m6 m7 m8) | (go_at_call 97; refine (need_any _ 2 _).mono ?_; rintro e w4 ⟨rfl, rfl⟩) | (go_at_call 102; refine (first3_any _ _ _ q _ (by first | exact HQ1.out (by assumption) | exact HQ0.out (by assumption))).mono ?_; rintro e w5 ⟨rfl, rfl⟩))
  all_goals (
    go_ret
    exact ⟨rfl, below_then HW0.out (HB3.out.alloc HB3.out.size _)⟩)
end

section
open Go Go.RowKit Go.Shelf
attribute [local go_sem] rrV

theorem findU_pos {s : ByteArray} {l : List UV} {v : Int} (h : findU s l = some v) : 1 ≤ v ∧ v ≤ 1099511627776 := by
  induction l with
  | nil => simp [findU] at h
  | cons x l ih =>
    simp only [findU] at h
    split at h
    · cases h; exact x.h2
    · exact ih h
theorem valueF_pos {nm : ByteArray} {us : List Un} {s : ByteArray} {v : Int} (h : valueF nm us s = (v, 0)) : 1 ≤ v ∧ v ≤ 1099511627776 := by
  unfold valueF at h
  split at h
  · split at h
    · rename_i x hx
      injection h with h1
      subst h1
      exact findU_pos hx
    · injection h with _ h2; simp at h2
  · injection h with _ h2; simp at h2

theorem below2 (W : World) (o1 o2 : Obj) : Below W.heap.size W ((W.alloc o1).alloc o2) := (below_alloc' W o1).alloc (below_alloc' W o1).size o2
theorem below3 (W : World) (o1 o2 o3 : Obj) : Below W.heap.size W (((W.alloc o1).alloc o2).alloc o3) := (below2 W o1 o2).alloc (below2 W o1 o2).size o3
theorem box_done {V w4 : World} {Bx : Nat} {t : TypeId} {v : Value} {q : Rat} {l : Nat} (hbl : Below V.heap.size V w4) (hle : V.heap.size ≤ Bx) (hy : Cel w4 Bx t #[.slice none 0 0, .slice none 0 0]) (hp : PV w4 v q l) (x y : Value) :
    Below V.heap.size V ((w4.setCell ⟨Bx, 0, none⟩ x).setCell ⟨Bx, 1, none⟩ y) ∧ V.heap.size ≤ Bx ∧ Cel ((w4.setCell ⟨Bx, 0, none⟩ x).setCell ⟨Bx, 1, none⟩ y) Bx t #[x, y] ∧ PV ((w4.setCell ⟨Bx, 0, none⟩ x).setCell ⟨Bx, 1, none⟩ y) v q l :=
  ⟨(hbl.setCell (p := ⟨Bx, 0, none⟩) hle _).setCell (p := ⟨Bx, 1, none⟩) hle _, hle, hy.set2 x y, hp.box hy x y⟩
theorem celBelow {W w' : World} {B : Nat} {t : TypeId} {vs : Array Value} (h : Cel W B t vs) (hb : Below W.heap.size W w') : Cel w' B t vs := h.below h.lt hb

theorem BookL.view_fac {w : World} {base Bk bm : Nat} {lv gv fv : Value} {ls : List La} {grp : List Nat} {fac : List Rat} {lim : Nat → Nat} (h : BookL w base Bk bm lv gv fv ls grp fac lim) : FacV w fv fac lim := by
  obtain ⟨qs, h3, h4, h5⟩ := h.fac
  exact ⟨qs, Sl.of_own h3, h4, h5⟩
theorem one_pv (v : Value) (q : Rat) (l : Nat) (w : World) (hv : PV w v q l) :
    Calls Tryd.prog 126 #[v] w fun e w' => e = .returned (.bool (decide (q = 1))) ∧ Below w.heap.size w w' := by
  obtain ⟨U, D, h1, h2, h3, h4⟩ := hv
  have e : decide (U = [] ∧ D = []) = decide (q = 1) := by rw [decide_eq_decide]; exact h2.one_iff.symm
  rw [← e]
  exact one_any v U D w h1
end
end Go.Proofs.YtmibpncmebhbjaaDoor
