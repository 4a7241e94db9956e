/- Plain: deeds; who takes part; who met whom; how far people are from one another; chains. No condition. Walks of the package people: deeds in memory; takes; all. Conditions: those stated. Walks of the package people: met. Conditions: those stated. A queue of names in memory; plain: the search for distances, its bounds. Conditions: those stated. Walks of the package people: distance. Conditions: those stated. Walks of the package people: deed. Conditions: those stated. Walks of the package people: CheckDeeds. Conditions: those stated. Walks of the package people: Chain. Conditions: those stated. -/
import Derived.Test.YtdmcopjbckelmaaGreatDoorZE
import Derived.Test.YtdmcopjbckelmaaGreatDoorZC
import Derived.ArgAppend
namespace Go.Proofs.YtdmcopjbckelmaaGreatDoor
section
open Go Go.RowKit Go.Shelf

/-- A deed. -/
structure De where
  nm : ByteArray
  year : Int
  sealer : ByteArray
  sl : ByteArray
  wit : List ByteArray
/-- An increasing list with a further name. -/
def insS (s : ByteArray) : List ByteArray → List ByteArray
  | [] => [s]
  | t :: l => if s.data.toList < t.data.toList then s :: t :: l else if s.data.toList = t.data.toList then t :: l else t :: insS s l
/-- As setL, by insertion. -/
def setI (l : List ByteArray) : List ByteArray := l.foldr insS []
theorem data_inj {s t : ByteArray} (h : s.data.toList = t.data.toList) : s = t := by
  cases s
  cases t
  simp only at h
  congr 1
  exact Array.toList_inj.1 h
theorem mem_insS {s x : ByteArray} {l : List ByteArray} : x ∈ insS s l ↔ x = s ∨ x ∈ l := by
  induction l with
  | nil => simp [insS]
  | cons t l ih =>
    simp only [insS]
    split
    · simp [List.mem_cons]
    · split
      · have := data_inj ‹s.data.toList = t.data.toList›
        subst this
        simp [List.mem_cons]
      · simp only [List.mem_cons, ih]
        constructor
        · rintro (h | h | h)
          · exact .inr (.inl h)
          · exact .inl h
          · exact .inr (.inr h)
        · rintro (h | h | h)
          · exact .inr (.inl h)
          · exact .inl h
          · exact .inr (.inr h)
theorem incS_cons {s : ByteArray} {l : List ByteArray} : IncS (s :: l) ↔ (∀ x ∈ l, s.data.toList < x.data.toList) ∧ IncS l := by
  unfold IncS IncB bytesL
  rw [List.map_cons, List.pairwise_cons]
  refine and_congr_left fun _ => ?_
  constructor
  · intro h x hx; exact h _ (List.mem_map.2 ⟨x, hx, rfl⟩)
  · intro h y hy
    obtain ⟨x, hx, rfl⟩ := List.mem_map.1 hy
    exact h x hx
theorem insS_inc {s : ByteArray} {l : List ByteArray} (h : IncS l) : IncS (insS s l) := by
  induction l with
  | nil => exact incS_cons.2 ⟨by simp, by simp [IncS, IncB, bytesL]⟩
  | cons t l ih =>
    obtain ⟨h1, h2⟩ := incS_cons.1 h
    simp only [insS]
    split
    · rename_i hlt
      exact incS_cons.2 ⟨fun x hx => by
        rcases List.mem_cons.1 hx with q | q
        · rw [q]; exact hlt
        · exact List.lt_trans hlt (h1 x q), h⟩
    · rename_i hlt
      split
      · exact h
      · rename_i hne
        have hts : t.data.toList < s.data.toList := by
          have hle : t.data.toList ≤ s.data.toList := List.not_lt.1 hlt
          rcases List.le_iff_lt_or_eq.1 hle with q | q
          · exact q
          · exact absurd q.symm hne
        exact incS_cons.2 ⟨fun x hx => by
          rcases mem_insS.1 hx with q | q
          · rw [q]; exact hts
          · exact h1 x q, ih h2⟩
theorem setI_inc (l : List ByteArray) : IncS (setI l) := by
  induction l with
  | nil => simp [setI, IncS, IncB, bytesL]
  | cons s l ih => exact insS_inc ih
theorem mem_setI {l : List ByteArray} {x : ByteArray} : x ∈ setI l ↔ x ∈ l := by
  induction l with
  | nil => simp [setI]
  | cons s l ih =>
    have : setI (s :: l) = insS s (setI l) := rfl
    rw [this, mem_insS, ih, List.mem_cons]
theorem setL_setI : setL = setI := by
  funext l
  exact incS_ext (setL_inc l) (setI_inc l) fun x => by rw [mem_setL, mem_setI]
/-- Does a person take part in a deed? -/
def takesB (d : De) (s : ByteArray) : Bool := decide (d.sealer = s) || memB d.wit s
/-- All that take part. -/
def partL (ds : List De) : List ByteArray := ds.flatMap fun d => d.sealer :: d.wit
def allF (ds : List De) : List ByteArray := setL (partL ds)
def withF (ds : List De) (s : ByteArray) : List De := ds.filter fun d => takesB d s
/-- All that a person met. -/
def metF (ds : List De) (s : ByteArray) : List ByteArray := allF (withF ds s)
/-- The map of them: of somebody who isn't there, nobody. -/
def knownF (ds : List De) (s : ByteArray) : List ByteArray := if s ∈ allF ds then metF ds s else []
/-- One person's turn in the search: all of a list who are new are one further away than it, and come to the queue's end. -/
def dsS (d : Nat) : List ByteArray → Sm → List ByteArray → Sm × List ByteArray
  | [], out, q => (out, q)
  | s :: l, out, q => if hasN out s then dsS d l out q else dsS d l (out ++ [(s, d)]) (q ++ [s])
theorem dsS_snoc (d : Nat) (l : List ByteArray) (s : ByteArray) : ∀ (out : Sm) (q : List ByteArray), dsS d (l ++ [s]) out q = if hasN (dsS d l out q).1 s then dsS d l out q else ((dsS d l out q).1 ++ [(s, d)], (dsS d l out q).2 ++ [s]) := by
  induction l with
  | nil => intro out q; rfl
  | cons t l ih =>
    intro out q
    simp only [List.cons_append, dsS]
    split
    · exact ih _ _
    · exact ih _ _
/-- After so many turns: how far away people are, and who is in the queue. -/
def dsI (m : ByteArray → List ByteArray) (frm : ByteArray) : Nat → Sm × List ByteArray
  | 0 => ([(frm, 0)], [frm])
  | i + 1 => match (dsI m frm i).2 with
    | [] => dsI m frm i
    | s :: q => dsS ((stepOf (dsI m frm i).1 s).getD 0 + 1) (m s) (dsI m frm i).1 q
theorem dsI_stay {m : ByteArray → List ByteArray} {frm : ByteArray} {i : Nat} (h : (dsI m frm i).2 = []) : ∀ j, dsI m frm (i + j) = dsI m frm i := by
  intro j
  induction j with
  | zero => rfl
  | succ j ih =>
    show dsI m frm (i + j + 1) = _
    simp only [dsI]
    rw [ih, h]
theorem dsI_uniq {m : ByteArray → List ByteArray} {frm : ByteArray} {i j : Nat} (hi : (dsI m frm i).2 = []) (hj : (dsI m frm j).2 = []) : (dsI m frm i).1 = (dsI m frm j).1 := by
  rcases Nat.le_total i j with h | h
  · obtain ⟨k, rfl⟩ := Nat.exists_eq_add_of_le h
    rw [dsI_stay hi]
  · obtain ⟨k, rfl⟩ := Nat.exists_eq_add_of_le h
    rw [dsI_stay hj]
/-- Steps towards the end of a chain. -/
def chN (m : ByteArray → List ByteArray) (away : Sm) : Nat → List ByteArray → List ByteArray
  | 0, out => out
  | n + 1, out => match (m (out.getLastD ByteArray.empty)).find? (fun s => decide ((stepOf away s).getD 0 = n)) with
    | some s => chN m away n (out ++ [s])
    | none => chN m away n out
/-- What Chain answers, given how far all are from its end. -/
def chainV (ds : List De) (away : Sm) (a b : ByteArray) : Option (List ByteArray) := match stepOf away a with
  | none => none
  | some n => if a ∈ allF ds ∧ b ∈ allF ds then some (chN (knownF ds) away n [a]) else none
end

section
open Go Go.RowKit Go.Shelf
attribute [local go_sem] Oper.semAt_some

def deCells (ps : List (De × Value)) : List Value := ps.flatMap fun p => [.string p.1.nm, .int .i64 p.1.year, .string p.1.sealer, .string p.1.sl, p.2]
/-- Deeds in memory. -/
def DeedsV (w : World) (v : Value) (ds : List De) : Prop := ∃ ps : List (De × Value), ps.map (·.1) = ds ∧ Sl w 5 v (deCells ps) ∧ ∀ p ∈ ps, Sl w 1 p.2 (namesV p.1.wit)
theorem DeedsV.below {w w' : World} {v : Value} {ds : List De} (h : DeedsV w v ds) (hb : Below w.heap.size w w') : DeedsV w' v ds := by
  obtain ⟨ps, h1, h2, h3⟩ := h
  exact ⟨ps, h1, h2.below hb, fun p hp => (h3 p hp).below hb⟩
theorem DeedsV.kc {w w' : World} {v : Value} {ds : List De} (h : DeedsV w v ds) (hb : KC w w') : DeedsV w' v ds := by
  obtain ⟨ps, h1, h2, h3⟩ := h
  exact ⟨ps, h1, h2.kc hb, fun p hp => (h3 p hp).kc hb⟩
theorem deCells_length (ps : List (De × Value)) : (deCells ps).length = ps.length * 5 := by
  unfold deCells
  induction ps with
  | nil => rfl
  | cons p ps ih => rw [List.flatMap_cons, List.length_append, ih]; simp; omega
theorem deCells_get {ps : List (De × Value)} : ∀ {k : Nat} {p : De × Value}, ps[k]? = some p → ∀ j u, [Value.string p.1.nm, .int .i64 p.1.year, .string p.1.sealer, .string p.1.sl, p.2][j]? = some u → (deCells ps)[k * 5 + j]? = some u := by
  induction ps with
  | nil => intro k p h; simp at h
  | cons x l ih =>
    intro k p h j u hu
    have e : deCells (x :: l) = [Value.string x.1.nm, .int .i64 x.1.year, .string x.1.sealer, .string x.1.sl, x.2] ++ deCells l := rfl
    have hj : j < 5 := (List.getElem?_eq_some_iff.1 hu).1
    rw [e]
    cases k with
    | zero =>
      simp at h
      subst h
      rw [List.getElem?_append_left (by simp; omega), Nat.zero_mul, Nat.zero_add]
      exact hu
    | succ k =>
      rw [List.getElem?_append_right (by simp; omega)]
      have := ih (k := k) (p := p) (by simpa using h) j u hu
      simp only [List.length_cons, List.length_nil]
      rw [show (k + 1) * 5 + j - (0 + 1 + 1 + 1 + 1 + 1) = k * 5 + j by omega]
      exact this
theorem DeedsV.many {w : World} {A : Option Addr} {n c : Nat} {ds : List De} (h : DeedsV w (.slice A n c) ds) : n = ds.length ∧ n ≤ c ∧ (c : Int) ≤ 9223372036854775807 := by
  obtain ⟨ps, rfl, ⟨A1, n1, c1, e, h1, h2, h3, _⟩, _⟩ := h
  cases e
  rw [deCells_length] at h1
  simp only [List.length_map]
  exact ⟨by omega, h2, h3⟩
theorem DeedsV.shape {w : World} {v : Value} {ds : List De} (h : DeedsV w v ds) : ∃ A c, v = .slice A ds.length c ∧ DeedsV w (.slice A ds.length c) ds := by
  obtain ⟨ps, h1, h2, h3⟩ := h
  obtain ⟨A, n, c, rfl, h2⟩ := h2.shape
  have h' : DeedsV w (.slice A n c) ds := ⟨ps, h1, h2, h3⟩
  obtain ⟨rfl, _⟩ := h'.many
  exact ⟨A, c, rfl, h'⟩
/-- The cells of a deed. -/
theorem DeedsV.deed {w : World} {A : Option Addr} {n c : Nat} {ds : List De} (h : DeedsV w (.slice A n c) ds) (hm : 0 < ds.length) : ∃ b o, A = some ⟨b, o, none⟩ ∧ b < w.heap.size ∧ ∀ k d, ds[k]? = some d →
    w.cell? ⟨b, o + k * 5, none⟩ = some (.string d.nm) ∧ w.cell? ⟨b, o + k * 5 + 1, none⟩ = some (.int .i64 d.year) ∧ w.cell? ⟨b, o + k * 5 + 2, none⟩ = some (.string d.sealer) ∧ w.cell? ⟨b, o + k * 5 + 3, none⟩ = some (.string d.sl) ∧ ∃ Aw nw cw, w.cell? ⟨b, o + k * 5 + 4, none⟩ = some (.slice Aw nw cw) ∧ Sl w 1 (.slice Aw nw cw) (namesV d.wit) := by
  obtain ⟨ps, rfl, h2, h3⟩ := h
  obtain ⟨A1, n1, c1, e, hl, _, _, hcl⟩ := h2.open2 (by decide)
  cases e
  rw [deCells_length] at hl
  rw [List.length_map] at hm
  obtain ⟨b, o, rfl, hb, hce⟩ := hcl (by omega)
  refine ⟨b, o, rfl, hb, fun k d hk => ?_⟩
  rw [List.getElem?_map] at hk
  obtain ⟨p, hp, rfl⟩ := Option.map_eq_some_iff.1 hk
  have g := deCells_get hp
  have a0 := hce _ _ (g 0 _ rfl)
  have a1 := hce _ _ (g 1 _ rfl)
  have a2 := hce _ _ (g 2 _ rfl)
  have a3 := hce _ _ (g 3 _ rfl)
  have a4 := hce _ _ (g 4 _ rfl)
  simp only [Nat.add_zero, ← Nat.add_assoc] at a0 a1 a2 a3 a4
  obtain ⟨Aw, nw, cw, e, hs⟩ := (h3 p (List.mem_of_getElem? hp)).shape
  rw [e] at a4
  exact ⟨a0, a1, a2, a3, Aw, nw, cw, a4, hs⟩
def deA (d : De) (x : Value) : Value := .agg #[.string d.nm, .int .i64 d.year, .string d.sealer, .string d.sl, x]
set_option maxHeartbeats 1000000 in
theorem takes_any (nm : ByteArray) (y : Int) (se sl : ByteArray) (wit : List ByteArray) (Aw : Option Addr) (nw cw : Nat) (s : ByteArray) (w : World) (h : Sl w 1 (.slice Aw nw cw) (namesV wit)) :
    Calls Tryz.prog 69 #[.agg #[.string nm, .int .i64 y, .string se, .string sl, .slice Aw nw cw], .string s] w fun e w' => e = .returned (.bool (takesB ⟨nm, y, se, sl, wit⟩ s)) ∧ Below w.heap.size w w' := by
  have hb := below_alloc' w (.cells #[.string nm, .int .i64 y, .string se, .string sl, .slice Aw nw cw] 63)
  have HB := Lib.hid hb
  by_cases e : se = s
  · have HT := Lib.hid (show takesB ⟨nm, y, se, sl, wit⟩ s = true by unfold takesB; simp only [e]; simp)
    have heq : (se.toList == s.toList) = true := by rw [e]; simp
    clear e h hb
    go_enter Tryz.func69, Tryz.ntmps69
    go_wp2
    go_ret
    exact ⟨by rw [HT.out]; rfl, HB.out⟩
  · have HT := Lib.hid (show takesB ⟨nm, y, se, sl, wit⟩ s = memB wit s by unfold takesB; rw [decide_eq_false e]; rfl)
    have heq : (se.toList == s.toList) = false := by rw [Bool.eq_false_iff]; intro z; exact e ((Lib.bytes_beq_iff _ _).1 z)
    have HC := Lib.hid (contains_any (.slice Aw nw cw) wit s _ (h.below hb))
    clear e h hb
    go_enter Tryz.func69, Tryz.ntmps69
    go_wp2_with fail
    refine HC.out.mono ?_
    rintro e w' ⟨rfl, rfl⟩
    go_wp2
    go_ret
    exact ⟨by rw [HT.out]; rfl, HB.out⟩
theorem partL_take {ds : List De} {k : Nat} {d : De} (h : ds[k]? = some d) : partL (ds.take (k + 1)) = partL (ds.take k) ++ [d.sealer] ++ d.wit := by
  unfold partL
  rw [List.take_add_one, h]
  simp
/-- As many deeds and witnesses as may be. -/
def Few (ds : List De) : Prop := ds.length ≤ 64 ∧ ∀ d ∈ ds, d.wit.length ≤ 12
theorem Few.part {ds : List De} (h : ∀ d ∈ ds, d.wit.length ≤ 12) : (partL ds).length ≤ ds.length * 13 := by
  induction ds with
  | nil => simp [partL]
  | cons d l ih =>
    have e : partL (d :: l) = (d.sealer :: d.wit) ++ partL l := rfl
    have a := h d (by simp)
    have b := ih fun x hx => h x (by simp [hx])
    rw [e, List.length_append, List.length_cons, List.length_cons]
    omega
theorem Few.take {ds : List De} (h : Few ds) (k : Nat) : Few (ds.take k) := ⟨Nat.le_trans (by simp; omega) h.1, fun d hd => h.2 d (List.mem_of_mem_take hd)⟩
theorem Few.with {ds : List De} (h : Few ds) (s : ByteArray) : Few (withF ds s) := ⟨Nat.le_trans (List.length_filter_le _ _) h.1, fun d hd => h.2 d (List.mem_filter.1 hd).1⟩
theorem Few.len {ds : List De} (h : Few ds) : (partL ds).length ≤ 832 := by have := Few.part h.2; have := h.1; omega
theorem allF_length {ds : List De} (h : Few ds) : (allF ds).length ≤ 832 := Nat.le_trans (setL_length_le _) h.len
set_option maxRecDepth 100000 in
set_option maxHeartbeats 1000000 in
theorem all_any (v : Value) (ds : List De) (w : World) (h : DeedsV w v ds) (hf : Few ds) :
    Calls Tryz.prog 87 #[v] w fun e w' => ∃ v', e = .returned v' ∧ w'.ownsRow w.heap.size 9 1 v' (allF ds).length (namesV (allF ds)) ∧ Below w.heap.size w w' := by
  obtain ⟨A, c, rfl, h⟩ := h.shape
  obtain ⟨_, h1, h2⟩ := h.many
  have HD := Lib.hid (fun q => h.deed q)
  have HF := Lib.hid hf
  clear h hf
  go_enter Tryz.func87, Tryz.ntmps87
  go_wp2
  go_loopw [3, 8] (fun v ti wr => ∃ k : Nat, ti = .int .i64 k ∧ k ≤ ds.length ∧ Hid (wr.ownsRow w.heap.size 9 1 v (partL (ds.take k)).length (namesV (partL (ds.take k)))) ∧ Hid (Below w.heap.size w wr)) (fun _ ti _ => ds.length - (intOf ti).toNat)
  case atStart => exact ⟨0, rfl, by omega, World.ownsRow_nil _ _ _ _, Below.refl _ _⟩
  case round =>
    obtain ⟨k, rfl, hk, HO, HB⟩ := hrel
    have HLen := Lib.hid ((HF.out.take k).len)
    by_cases hlt : k < ds.length
    · have hki : (k : Int) < (ds.length : Int) := by omega
      obtain ⟨b0, o0, rfl, hb, hce⟩ := HD.out (by omega)
      have hget : ds[k]? = some ds[k] := List.getElem?_eq_getElem hlt
      obtain ⟨g0, g1, g2, g3, Aw, nw, cw, g4, hsw⟩ := hce k _ hget
      have hw12 := HF.out.2 _ (List.getElem_mem hlt)
      replace g0 := below_cell HB.out g0
      replace g1 := below_cell HB.out g1
      replace g2 := below_cell HB.out g2
      replace g3 := below_cell HB.out g3
      replace g4 := below_cell HB.out g4
      have HP := Lib.hid (partL_take hget)
      have HW := Lib.hid hsw
      have HW12 := Lib.hid hw12
      clear hce hget hsw hw12
      generalize ds[k] = d at *
      obtain ⟨nm, yr, se, sl, wit⟩ := d
      simp only at g0 g1 g2 g3 g4 HP HW HW12
      have HOa := Lib.hid (HO.out.alloc (.cells #[.string nm, .int .i64 yr, .string se, .string sl, .slice Aw nw cw] 63))
      have HBa := Lib.hid (HB.out.alloc HB.out.size (.cells #[.string nm, .int .i64 yr, .string se, .string sl, .slice Aw nw cw] 63))
      have y0 := Cel.new wr 63 #[.string nm, .int .i64 yr, .string se, .string sl, .slice Aw nw cw]
      have HY := Lib.hid y0
      go_upto_region 5 with fail
      have c2 := HY.out.cell 2 (.string se) rfl
      clear g0 g1 g2 g3 g4 y0
      obtain ⟨B, hB⟩ : ∃ B, wr.heap.size = B := ⟨_, rfl⟩
      have HBB := Lib.hid hB
      rw [hB] at HY c2
      generalize wr.alloc (.cells #[.string nm, .int .i64 yr, .string se, .string sl, .slice Aw nw cw] 63) = wa at *
      have HOb := Lib.hid (HOa.out.alloc (.cells #[.string se] 9))
      have HBb := Lib.hid (HBa.out.alloc HBa.out.size (.cells #[.string se] 9))
      have HSb := Lib.hid (Sl.new (s := 1) wa 9 1 1 #[.string se] rfl (Nat.le_refl _) (by decide))
      have HNe := Lib.hid (fun g (q : u3.ownBlock = some g) => HO.out.lt g q)
      have HYb := Lib.hid (HY.out.alloc (.cells #[.string se] 9))
      go_upto_region 6 with (at_builtin; refine appStr _ _ rfl rfl rfl rfl HOb.out HSb.out (by simp [Value.oneCell']) (N := (partL (ds.take k)).length + 1) (by simp) (by have := HLen.out; omega) HBb.out.size ?_; intro A1 c1 w1 hap)
      have HB1 := Lib.hid (below_of_own hap.grown HOb.out HBb.out (Nat.le_refl _))
      have HO1 := Lib.hid hap.own
      have y1 := HYb.out.kept hap.grown (fun q => by have := HNe.out _ q.symm; have := HBB.out; omega)
      have c4 := y1.cell 4 (.slice Aw nw cw) rfl
      clear hap y1 c2
      go_wp2_with (at_builtin; refine appStr _ _ rfl rfl rfl rfl HO1.out (HW.out.below HB1.out) (names_one _) (N := (partL (ds.take k)).length + 1 + wit.length) (by simp [namesV_length]) (by have := HLen.out; have := HW12.out; omega) HB1.out.size ?_; intro A2 c2 w2 hap)
      have HB2 := Lib.hid (below_of_own hap.grown HO1.out HB1.out (Nat.le_refl _))
      have HO2 := Lib.hid hap.own
      clear hap c4
      go_wp2
      go_roundw
      case rel => exact ⟨k + 1, by go_num, by omega, by rw [HP.out]; simp only [namesV_append, List.length_append]; exact HO2.out, HB2.out⟩
      case measure => simp [intOf]; omega
    · have HK := Lib.hid (show ds.take k = ds from List.take_of_length_le (by omega))
      rw [HK.out] at HO HLen
      obtain ⟨A5, c5, e5, _⟩ := own_shape HO.out
      subst e5
      have HFe := Lib.hid (show (partL ds).length ≤ 1048576 by have := HLen.out; omega)
      clear HLen
      go_wp2_with fail
      refine (sort_own _ _ (partL ds) wr HO.out HFe.out).mono ?_
      rintro e w1 ⟨rfl, ho1, hg1⟩
      have HO1 := Lib.hid ho1
      have HB1 := Lib.hid (below_of_own hg1 HO.out HB.out (Nat.le_refl _))
      clear ho1 hg1
      go_wp2_with fail
      refine (compact_own _ _ (partL ds) w1 HO1.out HFe.out).mono ?_
      rintro e w2 ⟨v2, rfl, ho2, hg2⟩
      have HO2 := Lib.hid ho2
      have HB2 := Lib.hid (below_of_own hg2 HO1.out HB1.out (Nat.le_refl _))
      clear ho2 hg2
      go_wp2
      go_ret
      exact ⟨v2, rfl, HO2.out, HB2.out⟩
end

section
open Go Go.RowKit Go.Shelf
attribute [local go_sem] Oper.semAt_some

theorem own_some {w : World} {base : Nat} {e : TypeId} {size n : Nat} {v : Value} {xs : List Value} (h : w.ownsRow base e size v n xs) (hn : 0 < n) : ∃ g c, v = .slice (some ⟨g, 0, none⟩) n c := by
  rcases h.2 with ⟨rfl, h0⟩ | ⟨g, cap, cur, rfl, _⟩
  · omega
  · exact ⟨g, cap, rfl⟩
/-- A map of who met whom, for some people. -/
def MetW (w : World) (b : Nat) (ds : List De) (l : List ByteArray) : Prop := ∃ kv : List Kv, MapW w b kv ∧ kv.map (·.1) = l ∧ ∀ p ∈ kv, Sl w 1 p.2 (namesV (metF ds p.1)) ∧ ∃ g n c, p.2 = .slice (some g) n c
theorem MetW.lt {w : World} {b : Nat} {ds : List De} {l : List ByteArray} (h : MetW w b ds l) : b < w.heap.size := by
  obtain ⟨kv, h1, _⟩ := h
  exact h1.lt
theorem MetW.kc {w w' : World} {b : Nat} {ds : List De} {l : List ByteArray} (h : MetW w b ds l) (hk : KC w w') (hb : w'.heap[b]? = w.heap[b]?) : MetW w' b ds l := by
  obtain ⟨kv, h1, h2, h3⟩ := h
  exact ⟨kv, h1.same hb, h2, fun p hp => ⟨(h3 p hp).1.kc hk, (h3 p hp).2⟩⟩
theorem MetW.below {w w' : World} {b : Nat} {ds : List De} {l : List ByteArray} (h : MetW w b ds l) (hb : Below w.heap.size w w') : MetW w' b ds l :=
  h.kc (KC.below (KC.refl _) hb) (hb.block _ h.lt)
theorem getM_key {kv : List Kv} {s : ByteArray} (h : ¬ s ∈ kv.map (·.1)) : getM kv s = none := by
  unfold getM
  rw [Option.map_eq_none_iff, List.find?_eq_none]
  intro p hp q
  have : s = p.1 := by simpa using q
  exact h (List.mem_map.2 ⟨p, hp, this.symm⟩)
theorem mem_allF {ds : List De} {s : ByteArray} : s ∈ allF ds ↔ ∃ d ∈ ds, takesB d s = true := by
  unfold allF partL
  rw [mem_setL, List.mem_flatMap]
  constructor
  · rintro ⟨d, hd, hs⟩
    refine ⟨d, hd, ?_⟩
    unfold takesB
    rcases List.mem_cons.1 hs with q | q
    · rw [decide_eq_true q.symm]; rfl
    · rw [memB_iff.2 q, Bool.or_true]
  · rintro ⟨d, hd, ht⟩
    refine ⟨d, hd, ?_⟩
    unfold takesB at ht
    rw [Bool.or_eq_true, decide_eq_true_eq, memB_iff] at ht
    rcases ht with q | q
    · rw [← q]; exact List.mem_cons_self
    · exact List.mem_cons_of_mem _ q
theorem metF_self {ds : List De} {s : ByteArray} (h : s ∈ allF ds) : s ∈ metF ds s := by
  obtain ⟨d, hd, ht⟩ := mem_allF.1 h
  unfold metF
  exact mem_allF.2 ⟨d, List.mem_filter.2 ⟨hd, ht⟩, ht⟩
/-- Some rows of deeds. -/
def rowsW (ps : List (De × Value)) (s : ByteArray) : List (De × Value) := ps.filter fun p => takesB p.1 s
theorem rowsW_map (ps : List (De × Value)) (s : ByteArray) : (rowsW ps s).map (·.1) = withF (ps.map (·.1)) s := by
  unfold rowsW withF
  rw [List.filter_map]
  rfl
theorem rowsW_take {ps : List (De × Value)} {k : Nat} {p : De × Value} (h : ps[k]? = some p) (s : ByteArray) : rowsW (ps.take (k + 1)) s = rowsW (ps.take k) s ++ (if takesB p.1 s then [p] else []) := by
  unfold rowsW
  rw [List.take_add_one, h]
  simp only [Option.toList_some, List.filter_append]
  congr 1
  cases hq : takesB p.1 s with
  | true => simp only [List.filter_cons, hq, if_true, List.filter_nil]
  | false => simp only [List.filter_cons, hq, Bool.false_eq_true, if_false, List.filter_nil]
theorem deCells_append (l m : List (De × Value)) : deCells (l ++ m) = deCells l ++ deCells m := by simp [deCells]
theorem deCells_one (p : De × Value) (h : p.2.oneCell' = true) : ∀ u ∈ deCells [p], u.oneCell' = true := by
  intro u hu
  simp [deCells] at hu
  rcases hu with rfl | rfl | rfl | rfl | rfl
  · rfl
  · rfl
  · rfl
  · rfl
  · exact h
/-- The cells of a row, where the rows are known. -/
theorem rows_deed {w : World} {A : Option Addr} {n c : Nat} {ps : List (De × Value)} (h2 : Sl w 5 (.slice A n c) (deCells ps)) (hm : 0 < ps.length) : ∃ b o, A = some ⟨b, o, none⟩ ∧ b < w.heap.size ∧ ∀ k p, ps[k]? = some p →
    w.cell? ⟨b, o + k * 5, none⟩ = some (.string p.1.nm) ∧ w.cell? ⟨b, o + k * 5 + 1, none⟩ = some (.int .i64 p.1.year) ∧ w.cell? ⟨b, o + k * 5 + 2, none⟩ = some (.string p.1.sealer) ∧ w.cell? ⟨b, o + k * 5 + 3, none⟩ = some (.string p.1.sl) ∧ w.cell? ⟨b, o + k * 5 + 4, none⟩ = some p.2 := by
  obtain ⟨A1, n1, c1, e, hl, _, _, hcl⟩ := h2.open2 (by decide)
  cases e
  rw [deCells_length] at hl
  obtain ⟨b, o, rfl, hb, hce⟩ := hcl (by omega)
  refine ⟨b, o, rfl, hb, fun k p hp => ?_⟩
  have g := deCells_get hp
  have a0 := hce _ _ (g 0 _ rfl)
  have a1 := hce _ _ (g 1 _ rfl)
  have a2 := hce _ _ (g 2 _ rfl)
  have a3 := hce _ _ (g 3 _ rfl)
  have a4 := hce _ _ (g 4 _ rfl)
  simp only [Nat.add_zero, ← Nat.add_assoc] at a0 a1 a2 a3 a4
  exact ⟨a0, a1, a2, a3, a4⟩
set_option maxRecDepth 100000 in
set_option maxHeartbeats 4000000 in
theorem met_any (v : Value) (ds : List De) (w : World) (h : DeedsV w v ds) (hf : Few ds) :
    Calls Tryz.prog 71 #[v] w fun e w' => e = .returned (.map (some w.heap.size)) ∧ MetW w' w.heap.size ds (allF ds) ∧ Below w.heap.size w w' := by
  have hmm := @run_makeMap Tryz.prog
  obtain ⟨A, c, rfl, h⟩ := h.shape
  obtain ⟨_, h1, h2⟩ := h.many
  have HDv := Lib.hid h
  obtain ⟨ps, hps, hsl, hw⟩ := h
  have HAll := Lib.hid (fun w' h' => all_any (.slice A ds.length c) ds w' h' hf)
  have HSl := Lib.hid hsl
  have HPs := Lib.hid hps
  have HWi := Lib.hid hw
  have HF := Lib.hid hf
  have hb0 := below_alloc' w (.map #[] 0)
  have m0 := MapW.new w
  have HB0 := Lib.hid hb0
  have HM0 := Lib.hid m0
  have HLA := Lib.hid (allF_length hf)
  have HNd := Lib.hid (incS_nodup (show IncS (allF ds) from setL_inc _))
  have hpl : ps.length = ds.length := by rw [← hps, List.length_map]
  clear hsl hps hw hf hb0 m0
  go_enter Tryz.func71, Tryz.ntmps71
  go_wp2_with fail
  generalize w.alloc (.map #[] 0) = W at *
  clear hmm
  refine (HAll.out W (HDv.out.below HB0.out)).mono ?_
  rintro e w1 ⟨v1, rfl, ho1, hb1⟩
  obtain ⟨A1, c1, rfl, _⟩ := own_shape ho1
  have HS1 := Lib.hid (Sl.of_own ho1)
  have HB1 := Lib.hid (HB0.out.trans (hb1.mono HB0.out.size))
  have HM1 := Lib.hid (HM0.out.below HM0.out.lt hb1)
  have HMem := Lib.hid (fun s (hs : s ∈ allF ds) => metF_self hs)
  clear ho1 hb1 HB0 HM0 HAll
  generalize hAl : allF ds = al at *
  have HAl := Lib.hid hAl
  clear hAl
  go_wp2
  go_loopw [13] (fun t13 wr => ∃ k : Nat, t13 = .int .i64 k ∧ k ≤ al.length ∧ Hid (MetW wr w.heap.size ds (al.take k)) ∧ Hid (KC w1 wr) ∧ Hid (Below w.heap.size w wr)) (fun t13 _ => al.length - (intOf t13).toNat)
  case atStart => exact ⟨0, rfl, by omega, ⟨[], HM1.out, rfl, fun p hp => by cases hp⟩, KC.refl _, HB1.out⟩
  case round =>
    clear HB1 HM1
    obtain ⟨k, rfl, hk, HM, HK, HB⟩ := hrel
    by_cases hlt : k < al.length
    · have hki : (k : Int) < (al.length : Int) := by omega
      obtain ⟨_, _, _, e4, _, _, _, hcl⟩ := HS1.out.open2 (by decide)
      cases e4
      obtain ⟨b4, o4, e4, hbb, hce⟩ := hcl (by omega)
      subst e4
      have hget : al[k]? = some al[k] := List.getElem?_eq_getElem hlt
      have d1 := HK.out.2 _ _ (hce k (.string al[k]) (by simp [namesV, hget]))
      have HSe := Lib.hid (HMem.out _ (List.getElem_mem hlt))
      have HTk := Lib.hid (show al.take (k + 1) = al.take k ++ [al[k]] by rw [List.take_add_one, hget]; rfl)
      have HNew := Lib.hid (show ¬ al[k] ∈ al.take k from fun q => by
        have := HNd.out
        rw [← List.take_append_drop k al, List.nodup_append] at this
        exact this.2.2 _ q _ (List.mem_iff_getElem.2 ⟨0, by simp; omega, by simp⟩) rfl)
      clear hce hget hcl hbb
      generalize al[k] = s at *
      obtain ⟨W1, hW1⟩ : ∃ W1, W1 = wr := ⟨_, rfl⟩
      subst hW1
      have HW0 := Lib.hid (Below.refl W1.heap.size W1)
      go_wp2
      go_loopw [6, 19] (fun v6 t19 wi => ∃ j : Nat, t19 = .int .i64 j ∧ j ≤ ds.length ∧ Hid (wi.ownsRow W1.heap.size 63 5 v6 (rowsW (ps.take j) s).length (deCells (rowsW (ps.take j) s))) ∧ Hid (Below W1.heap.size W1 wi)) (fun _ t19 _ => ds.length - (intOf t19).toNat)
      case atStart => exact ⟨0, rfl, by omega, World.ownsRow_nil _ _ _ _, HW0.out⟩
      case round =>
        obtain ⟨j, rfl, hj, HO, HBi⟩ := hrel
        by_cases hltj : j < ds.length
        · have hji : (j : Int) < (ds.length : Int) := by omega
          obtain ⟨b0, o0, rfl, hb, hce⟩ := rows_deed HSl.out (by omega)
          have hjp : j < ps.length := by omega
          have hget : ps[j]? = some ps[j] := List.getElem?_eq_getElem hjp
          obtain ⟨g0, g1, g2, g3, g4⟩ := hce j _ hget
          have hbj := HB.out.trans (HBi.out.mono HB.out.size)
          replace g0 := below_cell hbj g0
          replace g1 := below_cell hbj g1
          replace g2 := below_cell hbj g2
          replace g3 := below_cell hbj g3
          replace g4 := below_cell hbj g4
          have hwit := (HWi.out _ (List.getElem_mem hjp)).below hbj
          have HR := Lib.hid (rowsW_take hget s)
          have HRl := Lib.hid (show (rowsW (ps.take j) s).length ≤ j from Nat.le_trans (List.length_filter_le _ _) (by simp; omega))
          clear hce hget hbj
          generalize ps[j] = p at *
          obtain ⟨⟨nm, yr, se, sl, wit⟩, pv⟩ := p
          simp only at g0 g1 g2 g3 g4 hwit HR
          obtain ⟨Aw, nw, cw, rfl, hwit⟩ := hwit.shape
          have HOa := Lib.hid (HO.out.alloc (.cells #[.string nm, .int .i64 yr, .string se, .string sl, .slice Aw nw cw] 63))
          have HBa := Lib.hid (HBi.out.alloc HBi.out.size (.cells #[.string nm, .int .i64 yr, .string se, .string sl, .slice Aw nw cw] 63))
          have HWa := Lib.hid (hwit.alloc (.cells #[.string nm, .int .i64 yr, .string se, .string sl, .slice Aw nw cw] 63))
          have y0 := Cel.new wr 63 #[.string nm, .int .i64 yr, .string se, .string sl, .slice Aw nw cw]
          have HY := Lib.hid y0
          clear hwit y0
          go_upto_region 9 with fail
          clear g0 g1 g2 g3 g4
          obtain ⟨B, hB⟩ : ∃ B, wr.heap.size = B := ⟨_, rfl⟩
          have HBB := Lib.hid hB
          rw [hB] at HY
          generalize wr.alloc (.cells #[.string nm, .int .i64 yr, .string se, .string sl, .slice Aw nw cw] 63) = wa at *
          have c0 := HY.out.cell 0 (.string nm) rfl
          have c1 := HY.out.cell 1 (.int .i64 yr) rfl
          have c2 := HY.out.cell 2 (.string se) rfl
          have c3 := HY.out.cell 3 (.string sl) rfl
          have c4 := HY.out.cell 4 (.slice Aw nw cw) rfl
          go_wp2_with fail
          refine (takes_any nm yr se sl wit Aw nw cw s wa HWa.out).mono ?_
          rintro e w6 ⟨rfl, hb6⟩
          have HB6 := Lib.hid (HBa.out.trans (hb6.mono HBa.out.size))
          have HO6 := Lib.hid (own_below HOa.out hb6)
          have y6 := HY.out.below HY.out.lt hb6
          clear hb6 c0 c1 c2 c3 c4
          cases hq : takesB ⟨nm, yr, se, sl, wit⟩ s with
          | true =>
            have HR2 := Lib.hid (HR.out.trans (by rw [hq, if_pos rfl]))
            have c0 := y6.cell 0 (.string nm) rfl
            have c1 := y6.cell 1 (.int .i64 yr) rfl
            have c2 := y6.cell 2 (.string se) rfl
            have c3 := y6.cell 3 (.string sl) rfl
            have c4 := y6.cell 4 (.slice Aw nw cw) rfl
            have HO7 := Lib.hid (HO6.out.alloc (.cells #[.string nm, .int .i64 yr, .string se, .string sl, .slice Aw nw cw] 63))
            have HB7 := Lib.hid (HB6.out.alloc HB6.out.size (.cells #[.string nm, .int .i64 yr, .string se, .string sl, .slice Aw nw cw] 63))
            have HS7 := Lib.hid (Sl.new (s := 5) w6 63 1 1 #[.string nm, .int .i64 yr, .string se, .string sl, .slice Aw nw cw] rfl (Nat.le_refl _) (by decide))
            have hl64 := HF.out.1
            clear hq y6 HR
            go_wp2_with (at_builtin; refine appDeed _ _ rfl rfl rfl rfl HO7.out HS7.out (deCells_one (⟨nm, yr, se, sl, wit⟩, .slice Aw nw cw) rfl) (N := (rowsW (ps.take j) s).length + 1) (by show (rowsW (ps.take j) s).length * 5 + 5 = ((rowsW (ps.take j) s).length + 1) * 5; omega) (by have := HRl.out; omega) HB7.out.size ?_; intro A8 c8 w8 hap)
            have HB8 := Lib.hid (below_of_own hap.grown HO7.out HB7.out (Nat.le_refl _))
            have HO8 := Lib.hid hap.own
            clear hap c0 c1 c2 c3 c4
            go_wp2
            go_roundw
            case rel => exact ⟨j + 1, by go_num, by omega, by rw [HR2.out, deCells_append, List.length_append]; exact HO8.out, HB8.out⟩
            case measure => simp [intOf]; omega
          | false =>
            have HR2 := Lib.hid (HR.out.trans (by rw [hq, if_neg (by decide), List.append_nil]))
            clear hq y6 HR
            go_wp2
            go_roundw
            case rel => exact ⟨j + 1, by go_num, by omega, by rw [HR2.out]; exact HO6.out, HB6.out⟩
            case measure => simp [intOf]; omega
        · have HKd := Lib.hid (show ps.take j = ps from List.take_of_length_le (by omega))
          rw [HKd.out] at HO
          have HDw := Lib.hid (show DeedsV wr u6 (withF ds s) from ⟨rowsW ps s, by rw [rowsW_map, HPs.out], Sl.of_own HO.out, fun p hp => (HWi.out p (List.mem_filter.1 hp).1).below (HB.out.trans (HBi.out.mono HB.out.size))⟩)
          go_wp2_with fail
          refine (all_any u6 (withF ds s) wr HDw.out (HF.out.with s)).mono ?_
          rintro e w8 ⟨v8, rfl, ho8, hb8⟩
          have hme : metF ds s = allF (withF ds s) := rfl
          rw [← hme] at ho8
          obtain ⟨g8, c8, e8⟩ := own_some ho8 (List.length_pos_of_mem HSe.out)
          subst e8
          have HS8 := Lib.hid (Sl.of_own ho8)
          have HB8 := Lib.hid (HBi.out.trans (hb8.mono HBi.out.size))
          have HM8 := Lib.hid (HM.out.below HB8.out)
          have HK8 := Lib.hid (HK.out.below HB8.out)
          have HB9 := Lib.hid (HB.out.trans (HB8.out.mono HB.out.size))
          clear ho8 hb8 hme
          obtain ⟨kv, hkm, hkk, hkv⟩ := HM8.out
          have hnone : getM kv s = none := getM_key (by rw [hkk]; exact HNew.out)
          have hup := hkm.s.update (P := Tryz.prog) (t := 102) Tryz.underlying102 Tryz.underlying9 s (.slice (some ⟨g8, 0, none⟩) (metF ds s).length c8) hnone
          have HP := Lib.hid (hkm.put s (.slice (some ⟨g8, 0, none⟩) (metF ds s).length c8))
          have HG := Lib.hid (hkm.s.put_grown s (.slice (some ⟨g8, 0, none⟩) (metF ds s).length c8))
          obtain ⟨w9, hw9⟩ : ∃ w9, mapPut w8 w.heap.size s (.slice (some ⟨g8, 0, none⟩) (metF ds s).length c8) = w9 := ⟨_, rfl⟩
          rw [hw9] at hup HP HG
          have HKc := Lib.hid (KC.map (KC.refl w8) HG.out hkm)
          have HMe := Lib.hid (show MetW w9 w.heap.size ds (al.take k ++ [s]) from ⟨kv ++ [(s, .slice (some ⟨g8, 0, none⟩) (metF ds s).length c8)], HP.out, by rw [List.map_append, hkk]; rfl, fun p hp => by
            rcases List.mem_append.1 hp with q | q
            · exact ⟨(hkv p q).1.kc HKc.out, (hkv p q).2⟩
            · rw [List.mem_singleton.1 q]; exact ⟨HS8.out.kc HKc.out, _, _, _, rfl⟩⟩)
          have HBz := Lib.hid (HB9.out.grown HG.out HB9.out.size (fun i e => by cases e; exact Nat.le_refl _))
          have HKz := Lib.hid (HK8.out.trans HKc.out)
          clear hw9 hkm hkk hkv hnone
          go_wp2
          refine ⟨⟨k + 1, by go_num, by omega, by rw [HTk.out]; exact HMe.out, HKz.out, HBz.out⟩, by simp [intOf]; omega⟩
    · have HT := Lib.hid (show al.take k = al from List.take_of_length_le (by omega))
      rw [HT.out] at HM
      go_wp2
      go_ret
      exact ⟨rfl, by rw [HAl.out]; exact HM.out, HB.out⟩
end

section
open Go Go.RowKit Go.Shelf

/-- A slice of names in a block of the call's own, perhaps not from its start. -/
def Qu (w : World) (base : Nat) (v : Value) (l : List ByteArray) : Prop :=
  ∃ b off cap cur, v = .slice (some ⟨b, off, none⟩) l.length cap ∧ base ≤ b ∧ w.heap[b]? = some (.cells cur 9 (0, 0)) ∧ l.length ≤ cap ∧ off + cap ≤ cur.size ∧ (cap : Int) ≤ 9223372036854775807 ∧ ∀ j u, (namesV l)[j]? = some u → cur[off + j]? = some u
theorem Qu.block {w : World} {base : Nat} {v : Value} {l : List ByteArray} (h : Qu w base v l) : ∃ b off cap, v = .slice (some ⟨b, off, none⟩) l.length cap ∧ base ≤ b ∧ b < w.heap.size ∧ l.length ≤ cap ∧ (cap : Int) ≤ 9223372036854775807 ∧ Qu w base (.slice (some ⟨b, off, none⟩) l.length cap) l := by
  obtain ⟨b, off, cap, cur, rfl, h1, h2, h3, h4, h5, h6⟩ := h
  exact ⟨b, off, cap, rfl, h1, (Array.getElem?_eq_some_iff.1 h2).1, h3, h5, b, off, cap, cur, rfl, h1, h2, h3, h4, h5, h6⟩
theorem Qu.kept {w w' : World} {base : Nat} {v : Value} {l : List ByteArray} {row : Option Nat} (h : Qu w base v l) (hg : w.grownBy w' row) (hr : ∀ b, base ≤ b → row ≠ some b) : Qu w' base v l := by
  obtain ⟨b, off, cap, cur, rfl, h1, h2, h3, h4, h5, h6⟩ := h
  exact ⟨b, off, cap, cur, rfl, h1, (hg.block b (Array.getElem?_eq_some_iff.1 h2).1 (fun e => hr b h1 e.symm)).trans h2, h3, h4, h5, h6⟩
theorem Qu.alloc {w : World} {base : Nat} {v : Value} {l : List ByteArray} (h : Qu w base v l) (o : Obj) : Qu (w.alloc o) base v l := h.kept (World.grownBy_alloc w o none) (fun _ _ e => by cases e)
theorem Qu.new (w : World) (s : ByteArray) : Qu (w.alloc (.cells #[.string s] 9)) w.heap.size (.slice (some ⟨w.heap.size, 0, none⟩) 1 1) [s] :=
  ⟨w.heap.size, 0, 1, #[.string s], rfl, Nat.le_refl _, World.alloc_heap_new w _, Nat.le_refl _, by simp, by decide, fun j u hu => by
    cases j with
    | zero => simpa [namesV] using hu
    | succ j => simp [namesV] at hu⟩
theorem Qu.cell {w : World} {base b off n cap : Nat} {l : List ByteArray} (h : Qu w base (.slice (some ⟨b, off, none⟩) n cap) l) {j : Nat} {s : ByteArray} (hj : l[j]? = some s) : w.cell? ⟨b, off + j, none⟩ = some (.string s) := by
  obtain ⟨b', off', cap', cur, e, h1, h2, h3, h4, h5, h6⟩ := h
  cases e
  rw [World.cell?, h2]
  simpa using h6 j (.string s) (by simp [namesV, hj])
theorem strU : Tryz.prog.underlying 22 = some (.slice (Tryz.prog.elem 22)) := by kernel_rfl
theorem strZ (w : World) : (sizeOf (Tryz.prog.elem 22)).run Tryz.prog w = .ok 1 w := by kernel_rfl
theorem str_from (A : Option Addr) (n c k : Nat) (hk : k ≤ n) (w : World) : (Instr.slice 22 (.slice A n c) (some (.int .i64 (k : Int))) none none).run Tryz.prog w = .ok (sliced A k n c 1) w := by
  rw [run_slice_l (P := Tryz.prog) (t := 22) (a := A) (len := n) (cap := c) (ht := strU) (kl := .i64) (l := (k : Int)) (h0 := by omega) (h1 := by omega)]
  rw [strZ]; rfl
theorem Qu.tail {w : World} {base b off n cap : Nat} {s : ByteArray} {l : List ByteArray} (h : Qu w base (.slice (some ⟨b, off, none⟩) n cap) (s :: l)) : Qu w base (sliced (some ⟨b, off, none⟩) 1 n cap 1) l := by
  obtain ⟨b', off', cap', cur, e, h1, h2, h3, h4, h5, h6⟩ := h
  cases e
  simp only [List.length_cons] at h3 ⊢
  unfold sliced
  by_cases hc : cap = 1
  · subst hc
    obtain rfl : l = [] := List.length_eq_zero_iff.1 (by omega)
    refine ⟨b, off, 0, cur, by simp, h1, h2, by simp, by omega, by decide, fun j u hu => by simp [namesV] at hu⟩
  · refine ⟨b, off + 1, cap - 1, cur, ?_, h1, h2, by omega, by omega, by omega, fun j u hu => ?_⟩
    · simp only [if_neg hc, Option.map_some, Nat.one_mul, Nat.add_sub_cancel]
      rfl
    · have := h6 (j + 1) u (by simpa [namesV] using hu)
      rwa [show off + (j + 1) = off + 1 + j by omega] at this
theorem Qu.push {w : World} {base : Nat} {v : Value} {l : List ByteArray} (h : Qu w base v l) (hb : base ≤ w.heap.size) (t ty : TypeId) (i : TypeInfo) (z : Value) (bytes : Nat) (ht : Tryz.prog.underlying t = some (.slice 9)) (hi : Tryz.prog.info? 9 = some i) (hz : i.zero = some z) (h1 : i.size = 1) (h2 : i.bytes = bytes) (hzs : z.cells.size = 1) (s : ByteArray) (ad : Addr) (c : Nat) (hc : w.cell? ad = some (.string s)) (hN : l.length + 1 ≤ 1048576) (hby : bytes ≤ 64) :
    ∃ v' w', (Builtin.append_ #[t, t] ty #[v, .slice (some ad) 1 c]).run Tryz.prog w = .ok v' w' ∧ Qu w' base v' (l ++ [s]) ∧ ∃ b, base ≤ b ∧ w.grownBy w' (some b) := by
  obtain ⟨b, off, cap, cur, rfl, g1, g2, g3, g4, g5, g6⟩ := h
  have hnews : ∀ j u, [Value.string s][j]? = some u → w.cell? (ad.add j) = some u := fun j u hu => by
    cases j with
    | zero => simp at hu; subst hu; rw [add_zero']; exact hc
    | succ j => simp at hu
  have hone : ∀ u ∈ [Value.string s], u.oneCell' = true := fun u hu => by rw [List.mem_singleton.1 hu]; rfl
  by_cases hr : l.length + 1 ≤ cap
  · have hlt : off + l.length < cur.size := by omega
    have hcell : w.cell? ⟨b, off + l.length, none⟩ = some cur[off + l.length] := by simp [World.cell?, g2, hlt]
    have hrun := run_append_room_cells (P := Tryz.prog) w t ty 9 i ht hi b off l.length cap ad 1 c [.string s] (by rw [h1]; rfl) hnews hone hr
      (fun j hj => by
        obtain rfl : j = 0 := by simpa using hj
        rw [h1, Nat.mul_one, Nat.add_zero, hcell]; rfl)
      (fun j hj => by simp [World.frozen?, g2])
    refine ⟨_, _, hrun, ⟨b, off, cap, cur.setIfInBounds (off + l.length) (.string s), ?_, g1, ?_, by simpa using hr, by simpa using g4, g5, fun j u hu => ?_⟩, b, g1, ?_⟩
    · simp
    · rw [h1, Nat.mul_one]
      exact (show Cel (w.setCell ⟨b, off + l.length, none⟩ (.string s)) b 9 (cur.setIfInBounds (off + l.length) (.string s)) from (show Cel w b 9 cur from g2).setAt _ _)
    · rw [namesV_append] at hu
      rw [Array.getElem?_setIfInBounds]
      by_cases hj : j < l.length
      · rw [if_neg (by omega)]
        exact g6 j u (by rwa [List.getElem?_append_left (by rwa [namesV_length])] at hu)
      · have hjl : j < (namesV l ++ namesV [s]).length := (List.getElem?_eq_some_iff.1 hu).1
        rw [List.length_append, namesV_length, namesV_length] at hjl
        simp only [List.length_cons, List.length_nil] at hjl
        obtain rfl : j = l.length := by omega
        rw [List.getElem?_append_right (by rw [namesV_length]; exact Nat.le_refl _), namesV_length, Nat.sub_self] at hu
        rw [if_pos rfl, if_pos hlt]
        simpa [namesV] using hu
    · rw [h1, Nat.mul_one]
      exact grown_set w b _ _
  · obtain ⟨v', w', hrun, hown, hg⟩ := run_append_arg_grows (P := Tryz.prog) w t ty 9 i z 1 bytes ht hi hz h1 h2 hzs (by decide) ⟨b, off, none⟩ l.length cap (namesV l) (by rw [namesV_length]; omega) (fun j u hu => by
        have e2 : (⟨b, off, none⟩ : Addr).add j = ⟨b, off + j, none⟩ := Addr.add_lit _ _ _
        rw [e2, World.cell?, g2]
        simpa using g6 j u hu) ad 1 c [.string s] rfl hnews (by omega) (by unfold maxLen; omega) (by
        have : (l.length + 1) * bytes ≤ 1048576 * 64 := Nat.mul_le_mul hN hby
        omega)
    obtain ⟨g, c', rfl⟩ := own_some hown (by omega)
    obtain ⟨h0, _ | ⟨g', cap', cur', e, q1, q2, q3, q4, q5, q6⟩⟩ := hown
    · omega
    · cases e
      refine ⟨_, _, hrun, ⟨g, 0, c', cur', by simp, Nat.le_trans hb q1, q2, by simpa using q3, by omega, by unfold maxLen at q4; omega, fun j u hu => ?_⟩, w.heap.size, hb, ⟨hg.os, hg.tape, hg.output, hg.size, fun k hk _ => hg.block k hk (by simp)⟩⟩
      rw [namesV_append, ← show namesV l ++ [Value.string s] = namesV l ++ namesV [s] from rfl, ← q6, List.getElem?_take] at hu
      split at hu
      · simpa using hu
      · cases hu
theorem wpList_qu {ops : Array Oper} {rest : List Oper} {o : Oper} {a : Act} {Q : Exit → Act → World → Prop} {w : World} (s x : Operand) (hgd : o.guard = none) (ho : o.op = .call { callee := .builtin .append, args := #[s, x], argTypes := #[22, 22] })
    {base : Nat} {v : Value} {l : List ByteArray} {t : ByteArray} {ad : Addr} {c : Nat} (hs : a.eval s = v) (hx : a.eval x = .slice (some ad) 1 c) (hq : Qu w base v l) (hc : w.cell? ad = some (.string t)) (hN : l.length + 1 ≤ 1048576) (hb : base ≤ w.heap.size)
    (h : ∀ b' off' cap' w', Qu w' base (.slice (some ⟨b', off', none⟩) (l.length + 1) cap') (l ++ [t]) → (∃ b, base ≤ b ∧ w.grownBy w' (some b)) → wpList Tryz.prog ops Q rest (a.put o.dst (.slice (some ⟨b', off', none⟩) (l.length + 1) cap')) w') : wpList Tryz.prog ops Q (o :: rest) a w := by
  obtain ⟨i, hi, hz0, hz1, hz2⟩ := info_parts infoStr
  obtain ⟨v', w', hrun, h2, h3⟩ := hq.push hb 22 o.type i (.string ⟨#[]⟩) 16 Tryz.underlying22 hi hz0 hz1 hz2 rfl t ad c hc hN (by decide)
  refine wpList_plain hgd fun K hK => ?_
  unfold Oper.wp execOp
  simp only [ho, resolve, invoke, builtin, Sem.run_bind, Sem.run_pure, Result.andThen_ok, List.map_toArray, List.map_cons, List.map_nil, hs, hx, hrun]
  obtain ⟨b', off', cap', e, _, _, _, _, h4⟩ := h2.block
  subst e
  rw [List.length_append, List.length_singleton] at h4 ⊢
  exact hK _ _ (h b' off' cap' w' h4 h3)
/-- What holds of the search. -/
structure DsG (U : List ByteArray) (i : Nat) (r : Sm × List ByteArray) : Prop where
  once : (r.1.map (·.1)).Nodup
  who : ∀ p ∈ r.1, p.1 ∈ U
  queue : ∀ s ∈ r.2, s ∈ r.1.map (·.1)
  many : r.1.length = i + r.2.length
  near : ∀ p ∈ r.1, p.2 ≤ i
theorem stepOf_has' {m : Sm} {s : ByteArray} (h : s ∈ m.map (·.1)) : ∃ n, stepOf m s = some n ∧ ∃ p ∈ m, p.1 = s ∧ p.2 = n := by
  obtain ⟨p, hp, rfl⟩ := List.mem_map.1 h
  unfold stepOf
  cases hf : m.find? (fun q => decide (p.1 = q.1)) with
  | none =>
    rw [List.find?_eq_none] at hf
    exact absurd (decide_eq_true rfl) (hf p hp)
  | some q =>
    have h1 := List.mem_of_find?_eq_some hf
    have h2 := List.find?_some hf
    exact ⟨q.2, rfl, q, h1, (by simpa using h2 : p.1 = q.1).symm, rfl⟩
theorem stepOf_append {m m' : Sm} {s : ByteArray} {n : Nat} (h : stepOf m s = some n) : stepOf (m ++ m') s = some n := by
  unfold stepOf at h ⊢
  obtain ⟨q, hq, rfl⟩ := Option.map_eq_some_iff.1 h
  rw [List.find?_append, hq]
  rfl
theorem dsS_grows (d : Nat) : ∀ (l : List ByteArray) (out : Sm) (q : List ByteArray), ∃ m', (dsS d l out q).1 = out ++ m' := by
  intro l
  induction l with
  | nil => intro out q; exact ⟨[], by simp [dsS]⟩
  | cons s l ih =>
    intro out q
    simp only [dsS]
    split
    · exact ih out q
    · obtain ⟨m', h⟩ := ih (out ++ [(s, d)]) (q ++ [s])
      exact ⟨(s, d) :: m', by rw [h]; simp⟩
/-- What holds within one person's turn. -/
theorem dsS_good {U : List ByteArray} {i : Nat} (d : Nat) (hd : d ≤ i + 1) : ∀ (l : List ByteArray), (∀ s ∈ l, s ∈ U) → ∀ (out : Sm) (q : List ByteArray), DsG U (i + 1) (out, q) → DsG U (i + 1) (dsS d l out q) := by
  intro l
  induction l with
  | nil => intro _ out q h; exact h
  | cons s l ih =>
    intro hl out q h
    simp only [dsS]
    split
    · exact ih (fun x hx => hl x (by simp [hx])) out q h
    · rename_i hn
      have hno : ¬ s ∈ out.map (·.1) := fun z => hn (hasN_iff.2 z)
      refine ih (fun x hx => hl x (by simp [hx])) _ _ ⟨?_, ?_, ?_, ?_, ?_⟩
      · simp only [List.map_append, List.map_cons, List.map_nil]
        rw [List.nodup_append]
        refine ⟨h.once, by simp, fun a ha b hb e => ?_⟩
        rw [List.mem_singleton.1 hb] at e
        exact hno (e ▸ ha)
      · intro p hp
        rcases List.mem_append.1 hp with k | k
        · exact h.who p k
        · rw [List.mem_singleton.1 k]; exact hl s (by simp)
      · intro x hx
        simp only [List.map_append, List.map_cons, List.map_nil]
        rcases List.mem_append.1 hx with k | k
        · exact List.mem_append_left _ (h.queue x k)
        · exact List.mem_append_right _ k
      · have := h.many
        simp only [List.length_append, List.length_singleton] at this ⊢
        omega
      · intro p hp
        rcases List.mem_append.1 hp with k | k
        · exact h.near p k
        · rw [List.mem_singleton.1 k]; exact hd
theorem dsI_next {m : ByteArray → List ByteArray} {frm : ByteArray} {i : Nat} {s : ByteArray} {q : List ByteArray} (h : (dsI m frm i).2 = s :: q) : dsI m frm (i + 1) = dsS ((stepOf (dsI m frm i).1 s).getD 0 + 1) (m s) (dsI m frm i).1 q := by
  simp only [dsI]
  rw [h]
theorem DsG.pop {U : List ByteArray} {i : Nat} {out : Sm} {s : ByteArray} {q : List ByteArray} (h : DsG U i (out, s :: q)) : DsG U (i + 1) (out, q) := by
  refine ⟨h.once, h.who, fun x hx => h.queue x (by simp [hx]), ?_, fun p hp => Nat.le_succ_of_le (h.near p hp)⟩
  have := h.many
  simp only [List.length_cons] at this ⊢
  omega
theorem dsI_good {U : List ByteArray} {m : ByteArray → List ByteArray} {frm : ByteArray} (hf : frm ∈ U) (hm : ∀ s, ∀ t ∈ m s, t ∈ U) : ∀ i, (i = 0 ∨ (dsI m frm (i - 1)).2 ≠ []) → DsG U i (dsI m frm i) := by
  intro i
  induction i with
  | zero => intro _; exact ⟨by simp [dsI], fun p hp => by simp [dsI] at hp; subst hp; exact hf, fun s hs => by simp [dsI] at hs ⊢; exact hs, rfl, fun p hp => by simp [dsI] at hp; subst hp; exact Nat.le_refl _⟩
  | succ i ih =>
    intro hne
    have hne' : (dsI m frm i).2 ≠ [] := by
      rcases hne with e | e
      · omega
      · exact e
    have hi : i = 0 ∨ (dsI m frm (i - 1)).2 ≠ [] := by
      rcases Nat.eq_zero_or_pos i with e | e
      · exact .inl e
      · refine .inr fun z => hne' ?_
        have := dsI_stay z 1
        rw [show i - 1 + 1 = i by omega] at this
        rw [this]; exact z
    have g := ih hi
    cases hq : (dsI m frm i).2 with
    | nil => exact absurd hq hne'
    | cons s q =>
      rw [dsI_next hq]
      have hr : dsI m frm i = ((dsI m frm i).1, s :: q) := by rw [← hq]
      rw [hr] at g
      have hg := g.pop
      obtain ⟨n, hn, p, hp, _, rfl⟩ := stepOf_has' (g.queue s (by simp))
      simp only at hn hp
      rw [hn]
      have := g.near p hp
      exact dsS_good _ (by simp; omega) _ (hm s) _ _ hg
theorem DsG.length {U : List ByteArray} {i : Nat} {r : Sm × List ByteArray} (h : DsG U i r) : i + r.2.length ≤ U.length := by
  rw [← h.many, ← List.length_map (f := (·.1))]
  exact nodup_le h.once fun s hs => by
    obtain ⟨p, hp, rfl⟩ := List.mem_map.1 hs
    exact h.who p hp
end

section
open Go Go.RowKit Go.Shelf
attribute [local go_sem] Oper.semAt_some

theorem Qu.mono {w : World} {base base' : Nat} {v : Value} {l : List ByteArray} (h : Qu w base v l) (hb : base' ≤ base) : Qu w base' v l := by
  obtain ⟨b, off, cap, cur, rfl, h1, h2⟩ := h
  exact ⟨b, off, cap, cur, rfl, Nat.le_trans hb h1, h2⟩
theorem knownF_mem {ds : List De} {s t : ByteArray} (h : t ∈ knownF ds s) : t ∈ allF ds := by
  unfold knownF at h
  split at h
  · unfold metF at h
    obtain ⟨d, hd, ht⟩ := mem_allF.1 h
    exact mem_allF.2 ⟨d, (List.mem_filter.1 hd).1, ht⟩
  · cases h
theorem MetW.look {w : World} {b : Nat} {ds : List De} (h : MetW w b ds (allF ds)) (s : ByteArray) : ∃ A n c, (∀ w', Below w.heap.size w w' → (Instr.lookup 102 (.map (some b)) (.string s) false).run Tryz.prog w' = .ok (.slice A n c) w') ∧ Sl w 1 (.slice A n c) (namesV (knownF ds s)) ∧ (s ∈ allF ds → ∃ g, A = some g) ∧ (¬ s ∈ allF ds → A = none ∧ n = 0 ∧ c = 0) := by
  obtain ⟨kv, hm, hk, hv⟩ := h
  have hl := fun w' (hb : Below w.heap.size w w') => (hm.below hm.lt hb).s.lookup (P := Tryz.prog) (t := 102) Tryz.underlying102 Tryz.underlying9 (Tryz.zeroValue22 _) s false
  by_cases hs : s ∈ allF ds
  · have hs' : s ∈ kv.map (·.1) := by rw [hk]; exact hs
    obtain ⟨p, hp, rfl⟩ := List.mem_map.1 hs'
    cases hf : kv.find? (fun q => decide (p.1 = q.1)) with
    | none =>
      rw [List.find?_eq_none] at hf
      exact absurd (decide_eq_true rfl) (hf p hp)
    | some q =>
      have h1 := List.mem_of_find?_eq_some hf
      have h2 : p.1 = q.1 := by simpa using List.find?_some hf
      obtain ⟨hsl, g, n, c, e⟩ := hv q h1
      have hg : getM kv p.1 = some (.slice (some g) n c) := by unfold getM; rw [hf]; simp [e]
      simp only [hg] at hl
      rw [e, ← h2] at hsl
      refine ⟨some g, n, c, hl, ?_, fun _ => ⟨g, rfl⟩, fun z => absurd hs z⟩
      unfold knownF
      rw [if_pos hs]
      exact hsl
  · have hg : getM kv s = none := getM_key (by rw [hk]; exact hs)
    simp only [hg] at hl
    refine ⟨none, 0, 0, hl, ?_, fun z => absurd z hs, fun _ => ⟨rfl, rfl, rfl⟩⟩
    unfold knownF
    rw [if_neg hs]
    exact Sl.nil0 _ _
def mapLen (w : World) (b : Nat) : Nat := match w.heap[b]? with
  | some (.map es _) => es.size
  | _ => 0
theorem MapW.len {w : World} {b : Nat} {m : List Kv} (h : MapW w b m) : mapLen w b = m.length := by
  obtain ⟨es, c, hb, he, _⟩ := h
  unfold mapLen
  rw [hb, ← he]
  simp
def lenV : Value → Nat
  | .slice _ n _ => n
  | _ => 0
theorem kvN_length (m : Sm) : (kvN m).length = m.length := by simp [kvN]
theorem dsS_take {d : Nat} {l : List ByteArray} {j : Nat} {s : ByteArray} (h : l[j]? = some s) (out : Sm) (q : List ByteArray) : dsS d (l.take (j + 1)) out q = if hasN (dsS d (l.take j) out q).1 s then dsS d (l.take j) out q else ((dsS d (l.take j) out q).1 ++ [(s, d)], (dsS d (l.take j) out q).2 ++ [s]) := by
  rw [List.take_add_one, h]
  exact dsS_snoc d (l.take j) s out q
set_option maxRecDepth 100000 in
set_option maxHeartbeats 4000000 in
theorem distance_any (bm : Nat) (ds : List De) (frm : ByteArray) (w : World) (hM : MetW w bm ds (allF ds)) (hf : Few ds) :
    Calls Tryz.prog 72 #[.map (some bm), .string frm] w fun e w' => ∃ i, i ≤ 900 ∧ (dsI (knownF ds) frm i).2 = [] ∧ e = .returned (.map (some w.heap.size)) ∧ MapW w' w.heap.size (kvN (dsI (knownF ds) frm i).1) ∧ Below w.heap.size w w' := by
  have hmm := @run_makeMap Tryz.prog
  have hU : (frm :: allF ds).length ≤ 833 := by have := allF_length hf; simp; omega
  have HG := Lib.hid (fun i hi => dsI_good (U := frm :: allF ds) (m := knownF ds) (frm := frm) (by simp) (fun s t ht => List.mem_cons_of_mem _ (knownF_mem ht)) i hi)
  have HKM := Lib.hid (fun s t (ht : t ∈ knownF ds s) => (List.mem_cons_of_mem frm (knownF_mem ht) : t ∈ frm :: allF ds))
  have HU := Lib.hid hU
  have HLook := Lib.hid (fun s => hM.look s)
  have m0 := MapW.new w
  have hup := m0.s.update (P := Tryz.prog) (t := 104) Tryz.underlying104 Tryz.underlying9 frm (.int .i64 0) rfl
  have hp0 := m0.put frm (.int .i64 0)
  have hg0 := m0.s.put_grown frm (.int .i64 0)
  have hb0 := (below_alloc' w (.map #[] 0)).grown hg0 (by simp) (fun i e => by cases e; exact Nat.le_refl _)
  have hz0 : w.heap.size + 1 ≤ (mapPut (w.alloc (.map #[] 0)) w.heap.size frm (.int .i64 0)).heap.size := by have := hg0.size; simpa using this
  have hb1 := hb0.alloc hb0.size (.cells #[.string frm] 9)
  have hp1 := hp0.alloc (.cells #[.string frm] 9)
  have hq1 := (Qu.new (mapPut (w.alloc (.map #[] 0)) w.heap.size frm (.int .i64 0)) frm).mono hz0
  have HP := Lib.hid hp1
  have HB := Lib.hid hb1
  have HQ := Lib.hid hq1
  obtain ⟨W0, hW0⟩ : ∃ W0, mapPut (w.alloc (.map #[] 0)) w.heap.size frm (.int .i64 0) = W0 := ⟨_, rfl⟩
  rw [hW0] at hup HP HB HQ
  clear hU hM hf hp0 hg0 hb0 hz0 hb1 hp1 hq1 hW0
  generalize hm : knownF ds = m at *
  have HEm := Lib.hid hm
  clear hm
  go_enter Tryz.func72, Tryz.ntmps72
  go_wp2
  generalize W0.alloc (.cells #[.string frm] 9) = W at *
  clear hmm hup
  generalize W0.heap.size = b0 at *
  go_loopw [6] (fun v6 wr => ∃ i : Nat, Hid (i = 0 ∨ (dsI m frm (i - 1)).2 ≠ []) ∧ Hid (Qu wr (w.heap.size + 1) v6 (dsI m frm i).2) ∧ Hid (MapW wr w.heap.size (kvN (dsI m frm i).1)) ∧ Hid (Below w.heap.size w wr)) (fun v6 wr => 2 * (900 - mapLen wr w.heap.size) + lenV v6)
  case atStart => exact ⟨0, .inl rfl, HQ.out, HP.out, HB.out⟩
  case round =>
    clear HQ HP HB
    obtain ⟨i, Hi, HQ, HM, HB⟩ := hrel
    obtain ⟨W1, hW1⟩ : ∃ W1, W1 = wr := ⟨_, rfl⟩
    subst hW1
    have hgi := HG.out i Hi.out
    have HGi := Lib.hid hgi
    have hi9 : i ≤ 900 := by have := hgi.length; have := HU.out; omega
    have HN := Lib.hid (fun s q (e : (dsI m frm i).2 = s :: q) => dsI_next e)
    have HE := Lib.hid (fun (e : (dsI m frm i).2 = []) => (⟨i, hi9, e, HM.out⟩ : ∃ i, i ≤ 900 ∧ (dsI m frm i).2 = [] ∧ MapW W1 w.heap.size (kvN (dsI m frm i).1)))
    have HI1 := Lib.hid (show ∀ s q, (dsI m frm i).2 = s :: q → (i + 1 = 0 ∨ (dsI m frm (i + 1 - 1)).2 ≠ []) from fun s q e => .inr (by rw [Nat.add_sub_cancel, e]; simp))
    clear hgi
    generalize hr1 : dsI m frm (i + 1) = r1 at *
    have HR1 := Lib.hid hr1
    clear hr1
    generalize hr : dsI m frm i = r at *
    obtain ⟨out, qu⟩ := r
    simp only at HQ HM HGi HN HE HI1
    have HEr := Lib.hid hr
    clear hr
    obtain ⟨b6, off6, cap6, rfl, hbb, hbs, hcap, hcm, hq6⟩ := HQ.out.block
    have HQ6 := Lib.hid hq6
    clear hq6 HQ
    cases qu with
    | nil =>
      obtain ⟨j, j0, j1, j2⟩ := HE.out rfl
      have HJ1 := Lib.hid j1
      have HJ2 := Lib.hid j2
      clear j1 j2 HN HE HI1
      simp only [List.length_nil]
      go_wp2
      go_ret
      exact ⟨j, j0, HJ1.out, rfl, HJ2.out, HB.out⟩
    | cons s0 rest =>
      obtain ⟨d, hd, p, hp, _, hpd⟩ := stepOf_has' (HGi.out.queue s0 (by simp))
      have hdi : d ≤ i := by rw [← hpd]; exact HGi.out.near p hp
      have HN1 := Lib.hid (show r1 = dsS (d + 1) (m s0) out rest by rw [HN.out s0 rest rfl, hd]; rfl)
      have HD := Lib.hid hd
      have HI2 := Lib.hid (HI1.out s0 rest rfl)
      have HPop := Lib.hid HGi.out.pop
      clear hd hp hpd HN HI1 HE
      obtain ⟨A2, n2, c2, hlk', hsl, _, _⟩ := HLook.out s0
      have hlk := hlk' W1 HB.out
      clear hlk'
      obtain ⟨_, _, _, e2, hn2, hcap2, hcm2, hcl2⟩ := hsl.open2 (by decide)
      cases e2
      rw [namesV_length] at hn2
      obtain rfl : n2 = (m s0).length := by omega
      have HCl := Lib.hid hcl2
      have HMs := Lib.hid (HKM.out s0)
      have c0 := HQ6.out.cell (j := 0) (s := s0) rfl
      rw [Nat.add_zero] at c0
      have hl6 : 0 < (s0 :: rest).length := by simp
      have HQn := Lib.hid (show Qu W1 (w.heap.size + 1) (.slice (some ⟨b6, off6, none⟩) (s0 :: rest).length cap6) (s0 :: (dsS (d + 1) ((m s0).take 0) out rest).2) from HQ6.out)
      have HMn := Lib.hid (show MapW W1 w.heap.size (kvN (dsS (d + 1) ((m s0).take 0) out rest).1) from HM.out)
      have HK1 := Lib.hid (KC.refl W1)
      have HLq := Lib.hid (show (s0 :: rest).length = rest.length + 1 from rfl)
      have hlm : mapLen W1 w.heap.size = out.length := by rw [HM.out.len, kvN_length]
      have HLm := Lib.hid hlm
      clear hsl hn2 hcl2 hlm
      generalize hml : m s0 = ml at *
      have HMl := Lib.hid hml
      clear hml
      obtain ⟨n6, hn6⟩ : ∃ n6, (s0 :: rest).length = n6 := ⟨_, rfl⟩
      rw [hn6] at HQn HLq hl6 ⊢
      clear hn6 HQ6
      go_wp2
      clear hlk c0
      go_loopw [6, 27] (fun v6 t27 wr => ∃ j : Nat, t27 = .int .i64 j ∧ j ≤ ml.length ∧ Hid (Qu wr (w.heap.size + 1) v6 (s0 :: (dsS (d + 1) (ml.take j) out rest).2)) ∧ Hid (MapW wr w.heap.size (kvN (dsS (d + 1) (ml.take j) out rest).1)) ∧ Hid (Below w.heap.size w wr)) (fun _ t27 _ => ml.length - (intOf t27).toNat)
      case atStart => exact ⟨0, rfl, by omega, HQn.out, HMn.out, HB.out⟩
      case round =>
        clear HQn HMn HM HB
        obtain ⟨j, rfl, hj, HQ, HM, HB⟩ := hrel
        obtain ⟨b7, off7, cap7, rfl, hbb7, hbs7, hcap7, hcm7, hq7⟩ := HQ.out.block
        have HQ7 := Lib.hid hq7
        have HGd := Lib.hid (dsS_good (d + 1) (by omega) (ml.take j) (fun s hs => HMs.out s (List.mem_of_mem_take hs)) out rest HPop.out)
        have HGr := Lib.hid (dsS_grows (d + 1) (ml.take j) out rest)
        clear hq7 HQ
        by_cases hlt : j < ml.length
        · have hji : (j : Int) < (ml.length : Int) := by omega
          obtain ⟨b2, o2, rfl, hb2, hce⟩ := HCl.out (by omega)
          have hget : ml[j]? = some ml[j] := List.getElem?_eq_getElem hlt
          have d1 := below_cell HB.out (hce j (.string ml[j]) (by simp [namesV, hget]))
          have HT := Lib.hid (dsS_take (d := d + 1) hget out rest)
          clear hce hget hb2
          generalize ml[j] = s at *
          generalize dsS (d + 1) (ml.take j) out rest = r at *
          obtain ⟨o', q'⟩ := r
          simp only at HM HT HGd HGr HQ7
          obtain ⟨n7, hn7⟩ : ∃ n7, (s0 :: q').length = n7 := ⟨_, rfl⟩
          have HN7 := Lib.hid hn7
          rw [hn7] at hcap7 HQ7 ⊢
          have hn70 : 0 < n7 := by rw [← hn7]; simp
          clear hn7
          have hlk2 := HM.out.s.lookup (P := Tryz.prog) (t := 104) Tryz.underlying104 Tryz.underlying9 (Tryz.zeroValue3 _) s true
          cases hh : hasN o' s with
          | true =>
            obtain ⟨q, _, hq2⟩ := getM_yes hh
            rw [hq2] at hlk2
            have HT2 := Lib.hid (HT.out.trans (by rw [hh, if_pos rfl]))
            clear hh hq2 HT
            go_wp2
            go_roundw
            case rel => exact ⟨j + 1, by go_num, by omega, by rw [HT2.out]; exact HQ7.out, by rw [HT2.out]; exact HM.out, HB.out⟩
            case measure => simp [intOf]; omega
          | false =>
            have hq2 := getM_no hh
            rw [hq2] at hlk2
            have HT2 := Lib.hid (HT.out.trans (by rw [hh, if_neg (by decide)]))
            have hst : stepOf o' s0 = some d := by
              obtain ⟨m', e⟩ := HGr.out
              rw [e]
              exact stepOf_append HD.out
            have hlk0 := HM.out.s.lookup (P := Tryz.prog) (t := 104) Tryz.underlying104 Tryz.underlying9 (Tryz.zeroValue3 _) s0 false
            rw [getM_kvN, hst] at hlk0
            simp only [Option.map_some] at hlk0
            have hw : IntKind.i64.wrap ((d : Int) + 1) = (d : Int) + 1 := IntWalk.i64_in _ (by omega)
            have hup := HM.out.s.update (P := Tryz.prog) (t := 104) Tryz.underlying104 Tryz.underlying9 s (.int .i64 ((d : Int) + 1)) hq2
            have HP := Lib.hid (HM.out.put s (.int .i64 ((d : Int) + 1)))
            have HG1 := Lib.hid (HM.out.s.put_grown s (.int .i64 ((d : Int) + 1)))
            obtain ⟨w1, hw1⟩ : ∃ w1, mapPut wr w.heap.size s (.int .i64 ((d : Int) + 1)) = w1 := ⟨_, rfl⟩
            rw [hw1] at hup HP HG1
            have HB1 := Lib.hid (HB.out.grown HG1.out HB.out.size (fun k e => by cases e; exact Nat.le_refl _))
            have HQ1 := Lib.hid ((HQ7.out.kept HG1.out (fun b hb e => by cases e; omega)).alloc (.cells #[.string s] 9))
            have HB2 := Lib.hid (HB1.out.alloc HB1.out.size (.cells #[.string s] 9))
            have HP2 := Lib.hid (HP.out.alloc (.cells #[.string s] 9))
            have c7 := HQ7.out.cell (j := 0) (s := s0) rfl
            rw [Nat.add_zero] at c7
            have hc1 := (Cel.new w1 9 #[.string s]).cell 0 (.string s) rfl
            have HC1 := Lib.hid hc1
            have hsz : w.heap.size + 1 ≤ (w1.alloc (.cells #[.string s] 9)).heap.size := by have := HB1.out.size; simp; omega
            have HSz := Lib.hid hsz
            have HLq' := Lib.hid (show (s0 :: q').length + 1 ≤ 1048576 by have := HGd.out.length; have := HU.out; simp at *; omega)
            clear hh hq2 HT hst hc1 hsz hw1
            go_wp2_with (at_builtin; refine wpList_qu _ _ rfl rfl rfl rfl HQ1.out HC1.out HLq'.out HSz.out ?_; intro b8 off8 cap8 w8 hq8 hg8)
            obtain ⟨bg, hbg, hgg⟩ := hg8
            have HB8 := Lib.hid (HB2.out.grown hgg HB2.out.size (fun k e => by cases e; omega))
            have HP8 := Lib.hid (HP2.out.kept hgg (by simp; omega))
            have HQ8 := Lib.hid hq8
            clear hq8 hgg hbg hlk0 hlk2 hup c7 d1
            go_wp2
            go_roundw
            case rel => exact ⟨j + 1, by go_num, by omega, by rw [HT2.out]; exact HQ8.out, by rw [HT2.out]; simp only [kvN_append]; exact HP8.out, HB8.out⟩
            case measure => simp [intOf]; omega
        · have HTk := Lib.hid (show ml.take j = ml from List.take_of_length_le (by omega))
          rw [HTk.out, ← HN1.out] at HM HGd HGr
          rw [HTk.out, ← HN1.out] at HQ7 hcap7
          rw [HTk.out, ← HN1.out]
          clear HTk
          obtain ⟨o', q'⟩ := r1
          simp only at HM HGd HGr HQ7 hcap7 ⊢
          obtain ⟨n7, hn7⟩ : ∃ n7, (s0 :: q').length = n7 := ⟨_, rfl⟩
          have HN7 := Lib.hid hn7
          rw [hn7] at hcap7 HQ7 ⊢
          have hn70 : 1 ≤ n7 := by rw [← hn7]; simp
          clear hn7
          obtain ⟨b9, off9, cap9, e9, _, _, _, _, hq9⟩ := HQ7.out.tail.block
          have hsl : (Instr.slice 22 (.slice (some ⟨b7, off7, none⟩) n7 cap7) (some (.int .i64 1)) none none).run Tryz.prog wr = .ok (sliced (some ⟨b7, off7, none⟩) 1 n7 cap7 1) wr := str_from (some ⟨b7, off7, none⟩) n7 cap7 1 hn70 wr
          rw [e9] at hsl
          have HQ9 := Lib.hid hq9
          clear hq9 e9
          go_wp2
          refine ⟨⟨i + 1, HI2.out, by rw [HR1.out]; exact HQ9.out, by rw [HR1.out]; exact HM.out, HB.out⟩, ?_⟩
          have a1 := HGd.out.many
          have a2 := HPop.out.many
          have a3 := HGd.out.length
          have a4 := HU.out
          have a5 : mapLen wr w.heap.size = o'.length := by rw [HM.out.len, kvN_length]
          have a6 := HLm.out
          have a7 := HLq.out
          obtain ⟨m', a8⟩ := HGr.out
          have a9 : o'.length = out.length + m'.length := by rw [a8, List.length_append]
          simp only at a1 a2 a3
          rw [a5, a6]
          simp only [lenV]
          omega
end

section
open Go Go.RowKit Go.Shelf
attribute [local go_sem] Oper.semAt_some

theorem strU2 : Tryz.prog.underlying 22 = some (.slice (Tryz.prog.elem 22)) := by kernel_rfl
theorem strZ2 (w : World) : (sizeOf (Tryz.prog.elem 22)).run Tryz.prog w = .ok 1 w := by kernel_rfl
theorem str_to (A : Option Addr) (n c k : Nat) (hk : k ≤ c) (w : World) : (Instr.slice 22 (.slice A n c) none (some (.int .i64 (k : Int))) none).run Tryz.prog w = .ok (sliced A 0 k c 1) w := by
  rw [run_slice_h (P := Tryz.prog) (t := 22) (a := A) (len := n) (cap := c) (ht := strU2) (kh := .i64) (h := (k : Int)) (h0 := by omega) (h2 := by omega)]
  rw [strZ2]; rfl
theorem names_to {w : World} {n c : Nat} {A : Option Addr} {l : List ByteArray} (h : Sl w 1 (.slice A n c) (namesV l)) {k : Nat} (hk : k ≤ n) : ∃ A', sliced A 0 k c 1 = .slice A' k c ∧ Sl w 1 (.slice A' k c) (namesV (l.take k)) := by
  obtain ⟨A', n', c', e, hl, hc, hm, hcell⟩ := h
  injection e with e1 e2 e3
  subst e1 e2 e3
  rw [namesV_length] at hl
  refine ⟨if c = 0 then A else A.map (·.add (0 * 1)), rfl, ⟨_, k, c, rfl, by rw [namesV_length, List.length_take]; omega, by omega, hm, fun h0 => ?_⟩⟩
  obtain ⟨ad, rfl, hj⟩ := hcell (by omega)
  refine ⟨ad, ?_, fun j u hu => hj j u ?_⟩
  · rw [Nat.zero_mul]; simp [add_zero']
  · rw [show namesV (l.take k) = (namesV l).take k by simp [namesV, List.map_take]] at hu
    rw [List.getElem?_take] at hu
    split at hu
    · exact hu
    · cases hu
def headB (d : De) : Bool := nameB d.nm && (decide (-1000 ≤ d.year) && (decide (d.year ≤ 1000) && (nameB d.sealer && ((decide (d.sl = ⟨#[]⟩) || nameB d.sl) && decide (d.wit.length ≤ 12)))))
def witOk (d : De) (i : Nat) : Bool := nameB (d.wit.getD i ByteArray.empty) && (decide (d.wit.getD i ByteArray.empty ≠ d.sealer) && !memB (d.wit.take i) (d.wit.getD i ByteArray.empty))
/-- Is a deed valid by itself? -/
def deedB (d : De) : Bool := headB d && (List.range d.wit.length).all (witOk d)
/-- No string of a deed is longer than any machine's. -/
def ShortD (d : De) : Prop := ((d.nm.size : Int) ≤ 9223372036854775807 ∧ (d.sealer.size : Int) ≤ 9223372036854775807 ∧ (d.sl.size : Int) ≤ 9223372036854775807) ∧ Short d.wit
theorem deedB_head {d : De} (h : headB d = false) : deedB d = false := by unfold deedB; rw [h]; rfl
theorem deedB_wit {d : De} {i : Nat} (hi : i < d.wit.length) (h : witOk d i = false) : deedB d = false := by
  unfold deedB
  have : (List.range d.wit.length).all (witOk d) = false := by
    rw [List.all_eq_false]
    exact ⟨i, List.mem_range.2 hi, by rw [h]; decide⟩
  rw [this, Bool.and_false]
theorem deedB_yes {d : De} (h : headB d = true) (hw : ∀ j, j < d.wit.length → witOk d j = true) : deedB d = true := by
  unfold deedB
  rw [h, Bool.true_and, List.all_eq_true]
  exact fun j hj => hw j (List.mem_range.1 hj)
theorem deedB_few {d : De} (h : deedB d = true) : d.wit.length ≤ 12 := by
  unfold deedB headB at h
  simp only [Bool.and_eq_true, decide_eq_true_eq] at h
  exact h.1.2.2.2.2.2
set_option maxRecDepth 100000 in
set_option maxHeartbeats 4000000 in
theorem deed_any (nm : ByteArray) (y : Int) (se sl : ByteArray) (wit : List ByteArray) (Aw : Option Addr) (nw cw : Nat) (w : World) (h : Sl w 1 (.slice Aw nw cw) (namesV wit)) (hs : ShortD ⟨nm, y, se, sl, wit⟩) :
    Calls Tryz.prog 92 #[.agg #[.string nm, .int .i64 y, .string se, .string sl, .slice Aw nw cw]] w fun e w' => e = .returned (.bool (deedB ⟨nm, y, se, sl, wit⟩)) ∧ Below w.heap.size w w' := by
  obtain ⟨⟨s1, s2, s3⟩, s4⟩ := hs
  simp only at s1 s2 s3 s4
  obtain ⟨_, _, _, e, hl, hcap, hcm, _⟩ := h.open2 (by decide)
  cases e
  rw [namesV_length] at hl
  obtain rfl : nw = wit.length := by omega
  clear hl
  have hb := below_alloc' w (.cells #[.string nm, .int .i64 y, .string se, .string sl, .slice Aw wit.length cw] 63)
  have y0 := Cel.new w 63 #[.string nm, .int .i64 y, .string se, .string sl, .slice Aw wit.length cw]
  have HS := Lib.hid (h.below hb)
  have HB := Lib.hid hb
  have HW := Lib.hid s4
  have J1 := Lib.hid s1
  have J2 := Lib.hid s2
  have J3 := Lib.hid s3
  clear h hb s1 s2 s3 s4
  go_enter Tryz.func92, Tryz.ntmps92
  go_upto_region 1 with fail
  obtain ⟨W, hW⟩ : ∃ W, w.alloc (.cells #[.string nm, .int .i64 y, .string se, .string sl, .slice Aw wit.length cw] 63) = W := ⟨_, rfl⟩
  rw [hW] at y0 HS HB ⊢
  clear hW
  have c0 := y0.cell 0 (.string nm) rfl
  have c1 := y0.cell 1 (.int .i64 y) rfl
  have c2 := y0.cell 2 (.string se) rfl
  have c3 := y0.cell 3 (.string sl) rfl
  have c4 := y0.cell 4 (.slice Aw wit.length cw) rfl
  have HI1 := Lib.hid (isName_any nm W J1.out)
  have HI2 := Lib.hid (isName_any se W J2.out)
  have HI3 := Lib.hid (isName_any sl W J3.out)
  clear y0
  go_cut [41] (fun t wx => t = .bool (!headB ⟨nm, y, se, sl, wit⟩) ∧ wx = W)
  case first =>
    cases q1 : nameB nm with
    | false =>
      rw [q1] at HI1
      have HH := Lib.hid (show headB ⟨nm, y, se, sl, wit⟩ = false by unfold headB; simp only; rw [q1]; rfl)
      clear q1
      go_wp2_with fail
      refine HI1.out.mono ?_
      rintro e wz ⟨rfl, rfl⟩
      go_wp2
      go_meet
      exact ⟨by rw [HH.out]; first | rfl | simp [], rfl⟩
    | true =>
      rw [q1] at HI1
      by_cases q2 : y < -1000
      · have b2 := q2
        have q2' : ¬ -1000 ≤ y := by omega
        have HH := Lib.hid (show headB ⟨nm, y, se, sl, wit⟩ = false by unfold headB; simp only; rw [q1, decide_eq_false q2']; rfl)
        clear q1 q2'
        go_wp2_with fail
        refine HI1.out.mono ?_
        rintro e wz ⟨rfl, rfl⟩
        go_wp2
        go_meet
        exact ⟨by rw [HH.out]; first | rfl | simp [], rfl⟩
      · have q2' : -1000 ≤ y := by omega
        by_cases q3 : 1000 < y
        · have q3' : ¬ y ≤ 1000 := by omega
          have HH := Lib.hid (show headB ⟨nm, y, se, sl, wit⟩ = false by unfold headB; simp only; rw [q1, decide_eq_true q2', decide_eq_false q3']; rfl)
          clear q1 q2' q3'
          go_wp2_with fail
          refine HI1.out.mono ?_
          rintro e wz ⟨rfl, rfl⟩
          go_wp2
          go_meet
          exact ⟨by rw [HH.out]; first | rfl | simp [q2, q3], rfl⟩
        · have q3' : y ≤ 1000 := by omega
          cases q4 : nameB se with
          | false =>
            rw [q4] at HI2
            have HH := Lib.hid (show headB ⟨nm, y, se, sl, wit⟩ = false by unfold headB; simp only; rw [q1, decide_eq_true q2', decide_eq_true q3', q4]; rfl)
            clear q1 q2' q3' q4
            go_wp2_with fail
            refine HI1.out.mono ?_
            rintro e wz ⟨rfl, rfl⟩
            go_wp2_with fail
            refine HI2.out.mono ?_
            rintro e wz ⟨rfl, rfl⟩
            go_wp2
            go_meet
            exact ⟨by rw [HH.out]; first | rfl | simp [q2, q3], rfl⟩
          | true =>
            rw [q4] at HI2
            by_cases q5 : sl = ⟨#[]⟩
            · have b5 : sl.toList.isEmpty = true := by rw [q5]; kernel_rfl
              by_cases q6 : wit.length ≤ 12
              · have b6 : ¬ (12 : Int) < (wit.length : Int) := by omega
                have HH := Lib.hid (show headB ⟨nm, y, se, sl, wit⟩ = true by unfold headB; simp only; rw [q1, decide_eq_true q2', decide_eq_true q3', q4, decide_eq_true q5, decide_eq_true q6]; rfl)
                clear q1 q2' q3' q4 q5 q6
                go_wp2_with fail
                refine HI1.out.mono ?_
                rintro e wz ⟨rfl, rfl⟩
                go_wp2_with fail
                refine HI2.out.mono ?_
                rintro e wz ⟨rfl, rfl⟩
                go_wp2
                go_meet
                exact ⟨by rw [HH.out]; first | rfl | simp [q2, q3, b6], rfl⟩
              · have b6 : (12 : Int) < (wit.length : Int) := by omega
                have HH := Lib.hid (show headB ⟨nm, y, se, sl, wit⟩ = false by unfold headB; simp only; rw [q1, decide_eq_true q2', decide_eq_true q3', q4, decide_eq_true q5, decide_eq_false q6]; rfl)
                clear q1 q2' q3' q4 q5 q6
                go_wp2_with fail
                refine HI1.out.mono ?_
                rintro e wz ⟨rfl, rfl⟩
                go_wp2_with fail
                refine HI2.out.mono ?_
                rintro e wz ⟨rfl, rfl⟩
                go_wp2
                go_meet
                exact ⟨by rw [HH.out]; first | rfl | simp [q2, q3, b6], rfl⟩
            · have b5 : sl.toList.isEmpty = false := by
                rw [Bool.eq_false_iff]
                intro z
                exact q5 ((Lib.bytes_beq_iff _ _).1 (beq_iff_eq.2 ((List.isEmpty_iff.1 z).trans (show [] = (⟨#[]⟩ : ByteArray).toList from by kernel_rfl))))
              cases q7 : nameB sl with
              | false =>
                rw [q7] at HI3
                have HH := Lib.hid (show headB ⟨nm, y, se, sl, wit⟩ = false by unfold headB; simp only; rw [q1, decide_eq_true q2', decide_eq_true q3', q4, decide_eq_false q5, q7]; rfl)
                clear q1 q2' q3' q4 q5 q7
                go_wp2_with fail
                refine HI1.out.mono ?_
                rintro e wz ⟨rfl, rfl⟩
                go_wp2_with fail
                refine HI2.out.mono ?_
                rintro e wz ⟨rfl, rfl⟩
                go_wp2_with fail
                refine HI3.out.mono ?_
                rintro e wz ⟨rfl, rfl⟩
                go_wp2
                go_meet
                exact ⟨by rw [HH.out]; first | rfl | simp [q2, q3, b5], rfl⟩
              | true =>
                rw [q7] at HI3
                by_cases q6 : wit.length ≤ 12
                · have b6 : ¬ (12 : Int) < (wit.length : Int) := by omega
                  have HH := Lib.hid (show headB ⟨nm, y, se, sl, wit⟩ = true by unfold headB; simp only; rw [q1, decide_eq_true q2', decide_eq_true q3', q4, decide_eq_false q5, q7, decide_eq_true q6]; rfl)
                  clear q1 q2' q3' q4 q5 q7 q6
                  go_wp2_with fail
                  refine HI1.out.mono ?_
                  rintro e wz ⟨rfl, rfl⟩
                  go_wp2_with fail
                  refine HI2.out.mono ?_
                  rintro e wz ⟨rfl, rfl⟩
                  go_wp2_with fail
                  refine HI3.out.mono ?_
                  rintro e wz ⟨rfl, rfl⟩
                  go_wp2
                  go_meet
                  exact ⟨by rw [HH.out]; first | rfl | simp [q2, q3, b6], rfl⟩
                · have b6 : (12 : Int) < (wit.length : Int) := by omega
                  have HH := Lib.hid (show headB ⟨nm, y, se, sl, wit⟩ = false by unfold headB; simp only; rw [q1, decide_eq_true q2', decide_eq_true q3', q4, decide_eq_false q5, q7, decide_eq_false q6]; rfl)
                  clear q1 q2' q3' q4 q5 q7 q6
                  go_wp2_with fail
                  refine HI1.out.mono ?_
                  rintro e wz ⟨rfl, rfl⟩
                  go_wp2_with fail
                  refine HI2.out.mono ?_
                  rintro e wz ⟨rfl, rfl⟩
                  go_wp2_with fail
                  refine HI3.out.mono ?_
                  rintro e wz ⟨rfl, rfl⟩
                  go_wp2
                  go_meet
                  exact ⟨by rw [HH.out]; first | rfl | simp [q2, q3, b6], rfl⟩
  case rest =>
    obtain ⟨rfl, hwc⟩ := hcut
    replace hwc := hwc.symm
    subst hwc
    cases q : headB ⟨nm, y, se, sl, wit⟩ with
    | false =>
      have HR := Lib.hid (deedB_head q)
      clear q
      simp only [Bool.not_false]
      go_wp2
      go_ret
      exact ⟨by rw [HR.out]; rfl, HB.out⟩
    | true =>
      have HQ := Lib.hid q
      have HR : ∀ r, deedB ⟨nm, y, se, sl, wit⟩ = r → Hid (deedB ⟨nm, y, se, sl, wit⟩ = r) := fun r h => Lib.hid h
      have HR' := Lib.hid HR
      clear q HR
      simp only [Bool.not_true]
      go_wp2
      go_loopw [45] (fun ti wr => ∃ k : Nat, ti = .int .i64 k ∧ k ≤ wit.length ∧ wr = W ∧ Hid (∀ j, j < k → witOk ⟨nm, y, se, sl, wit⟩ j = true)) (fun ti _ => wit.length - (intOf ti).toNat)
      case atStart => exact ⟨0, rfl, by omega, rfl, fun j hj => absurd hj (Nat.not_lt_zero _)⟩
      case round =>
        obtain ⟨k, rfl, hk, hwr, HO⟩ := hrel
        replace hwr := hwr.symm
        subst hwr
        by_cases hlt : k < wit.length
        · have hki : (k : Int) < (wit.length : Int) := by omega
          obtain ⟨_, _, _, e4, _, _, _, hcl⟩ := HS.out.open2 (by decide)
          cases e4
          obtain ⟨b4, o4, e4, hbb, hce⟩ := hcl (by omega)
          subst e4
          have hget : wit[k]? = some wit[k] := List.getElem?_eq_getElem hlt
          have d1 := hce k (.string wit[k]) (by simp [namesV, hget])
          have HD := Lib.hid (getD_of hget)
          have HIs := Lib.hid (isName_any wit[k] W (HW.out _ (List.getElem_mem hlt)))
          obtain ⟨A', hsl, hsn⟩ := names_to HS.out (Nat.le_of_lt hlt)
          have hst := (str_to (some ⟨b4, o4, none⟩) wit.length cw k (by omega) W).trans (by rw [hsl])
          have HSn := Lib.hid hsn
          clear hce hget hcl hbb hsl hsn
          generalize wit[k] = s at *
          have HCo := Lib.hid (contains_any (.slice A' k cw) (wit.take k) s W HSn.out)
          cases q1 : nameB s with
          | false =>
            rw [q1] at HIs
            have HF := Lib.hid (deedB_wit (d := ⟨nm, y, se, sl, wit⟩) hlt (by unfold witOk; rw [HD.out, q1]; rfl))
            clear q1
            go_wp2_with fail
            refine HIs.out.mono ?_
            rintro e wz ⟨rfl, rfl⟩
            go_wp2
            go_ret
            exact ⟨by rw [HF.out]; rfl, HB.out⟩
          | true =>
            rw [q1] at HIs
            by_cases q2 : s = se
            · have HF := Lib.hid (deedB_wit (d := ⟨nm, y, se, sl, wit⟩) hlt (by unfold witOk; rw [HD.out, q1]; simp [q2]))
              have b2 : (s.toList == se.toList) = true := by rw [q2]; simp
              clear q1 q2
              go_wp2_with fail
              refine HIs.out.mono ?_
              rintro e wz ⟨rfl, rfl⟩
              go_wp2
              go_ret
              exact ⟨by rw [HF.out]; rfl, HB.out⟩
            · have b2 : (s.toList == se.toList) = false := by rw [Bool.eq_false_iff]; intro z; exact q2 ((Lib.bytes_beq_iff _ _).1 z)
              cases q3 : memB (wit.take k) s with
              | true =>
                have HF := Lib.hid (deedB_wit (d := ⟨nm, y, se, sl, wit⟩) hlt (by unfold witOk; rw [HD.out, q1, q3]; simp))
                rw [q3] at HCo
                clear q1 q2 q3
                go_wp2_with fail
                refine HIs.out.mono ?_
                rintro e wz ⟨rfl, rfl⟩
                go_wp2_with fail
                refine HCo.out.mono ?_
                rintro e wz ⟨rfl, rfl⟩
                go_wp2
                go_ret
                exact ⟨by rw [HF.out]; rfl, HB.out⟩
              | false =>
                have HK := Lib.hid (show witOk ⟨nm, y, se, sl, wit⟩ k = true by unfold witOk; rw [HD.out, q1, q3]; simp [q2])
                rw [q3] at HCo
                clear q1 q2 q3
                go_wp2_with fail
                refine HIs.out.mono ?_
                rintro e wz ⟨rfl, rfl⟩
                go_wp2_with fail
                refine HCo.out.mono ?_
                rintro e wz ⟨rfl, rfl⟩
                go_wp2
                go_roundw
                case rel => exact ⟨k + 1, by go_num, by omega, trivial, fun j hj => by
                  rcases Nat.lt_succ_iff_lt_or_eq.1 hj with q | q
                  · exact HO.out j q
                  · rw [q]; exact HK.out⟩
                case measure => simp [intOf]; omega
        · have HF := Lib.hid (deedB_yes HQ.out (fun j hj => HO.out j (by simp only at hj; omega)))
          go_wp2
          go_ret
          exact ⟨by rw [HF.out]; rfl, HB.out⟩
end

section
open Go Go.RowKit Go.Shelf
attribute [local go_sem] Oper.semAt_some

def noDe : De := ⟨ByteArray.empty, 0, ByteArray.empty, ByteArray.empty, []⟩
def okD (ds : List De) (i : Nat) : Bool := deedB (ds.getD i noDe) && !memB ((ds.take i).map (·.nm)) (ds.getD i noDe).nm
/-- The error of a list of deeds. -/
def checkDF (ds : List De) : Int := if 64 < ds.length then 3 else if (List.range ds.length).all (okD ds) then 0 else 102
def ShortDs (ds : List De) : Prop := ∀ d ∈ ds, ShortD d
theorem checkDF_no {ds : List De} {i : Nat} (hl : ¬ 64 < ds.length) (hi : i < ds.length) (h : okD ds i = false) : checkDF ds = 102 := by
  unfold checkDF
  rw [if_neg hl]
  have : (List.range ds.length).all (okD ds) = false := by
    rw [List.all_eq_false]
    exact ⟨i, List.mem_range.2 hi, by rw [h]; decide⟩
  rw [this]
  rfl
theorem checkDF_yes {ds : List De} (hl : ¬ 64 < ds.length) (h : ∀ j, j < ds.length → okD ds j = true) : checkDF ds = 0 := by
  unfold checkDF
  rw [if_neg hl, if_pos (List.all_eq_true.2 fun j hj => h j (List.mem_range.1 hj))]
theorem checkDF_ok {ds : List De} (h : checkDF ds = 0) : ds.length ≤ 64 ∧ ∀ j, j < ds.length → okD ds j = true := by
  unfold checkDF at h
  split at h
  · cases h
  · split at h
    · rename_i q
      exact ⟨by omega, fun j hj => List.all_eq_true.1 q j (List.mem_range.2 hj)⟩
    · cases h
theorem checkDF_few {ds : List De} (h : checkDF ds = 0) : Few ds := by
  obtain ⟨h1, h2⟩ := checkDF_ok h
  refine ⟨h1, fun d hd => ?_⟩
  obtain ⟨j, hj, rfl⟩ := List.mem_iff_getElem.1 hd
  have := h2 j hj
  unfold okD at this
  rw [Bool.and_eq_true] at this
  have e : ds.getD j noDe = ds[j] := by simp [List.getD, hj]
  rw [e] at this
  exact deedB_few this.1
def trueKv (l : List ByteArray) : List Kv := l.map fun s => (s, .bool true)
theorem getM_true (l : List ByteArray) (s : ByteArray) : getM (trueKv l) s = if memB l s then some (.bool true) else none := by
  by_cases h : s ∈ l
  · rw [memB_iff.2 h, if_pos rfl]
    unfold getM trueKv
    cases hf : (l.map fun s => ((s, Value.bool true) : Kv)).find? (fun p => decide (s = p.1)) with
    | none =>
      rw [List.find?_eq_none] at hf
      exact absurd (decide_eq_true rfl) (hf (s, .bool true) (List.mem_map.2 ⟨s, h, rfl⟩))
    | some q =>
      obtain ⟨t, _, rfl⟩ := List.mem_map.1 (List.mem_of_find?_eq_some hf)
      rfl
  · rw [memB_no.2 h, if_neg (by decide)]
    exact getM_key (by simpa [trueKv, List.map_map, Function.comp_def] using h)
set_option maxRecDepth 100000 in
set_option maxHeartbeats 2000000 in
theorem checkDeeds_any (v : Value) (ds : List De) (w : World) (h : DeedsV w v ds) (hs : ShortDs ds) :
    Calls Tryz.prog 45 #[v] w fun e w' => e = .returned (.int .i64 (checkDF ds)) ∧ Below w.heap.size w w' := by
  obtain ⟨A, c, rfl, h⟩ := h.shape
  obtain ⟨_, h1, h2⟩ := h.many
  have HD := Lib.hid (fun q => h.deed q)
  have HSh := Lib.hid hs
  have hmm := @run_makeMap Tryz.prog
  clear h hs
  by_cases hl : 64 < ds.length
  · have HR := Lib.hid (show checkDF ds = 3 by unfold checkDF; rw [if_pos hl])
    have hli : (64 : Int) < (ds.length : Int) := by omega
    clear hmm
    go_enter Tryz.func45, Tryz.ntmps45
    go_wp2
    go_ret
    exact ⟨by rw [HR.out]; rfl, Below.refl _ _⟩
  · have hli : ¬ (64 : Int) < (ds.length : Int) := by omega
    have HB0 := Lib.hid (below_alloc' w (.map #[] 0))
    have HM0 := Lib.hid (MapW.new w)
    have HL := Lib.hid hl
    go_enter Tryz.func45, Tryz.ntmps45
    go_wp2
    generalize w.alloc (.map #[] 0) = W at *
    clear hmm hli
    go_loopw [12] (fun ti wr => ∃ k : Nat, ti = .int .i64 k ∧ k ≤ ds.length ∧ Hid (∀ j, j < k → okD ds j = true) ∧ Hid (MapW wr w.heap.size (trueKv ((ds.take k).map (·.nm)))) ∧ Hid (Below w.heap.size w wr)) (fun ti _ => ds.length - (intOf ti).toNat)
    case atStart => exact ⟨0, rfl, by omega, fun j hj => absurd hj (Nat.not_lt_zero _), HM0.out, HB0.out⟩
    case round =>
      clear HB0 HM0
      obtain ⟨k, rfl, hk, HO, HM, HB⟩ := hrel
      by_cases hlt : k < ds.length
      · have hki : (k : Int) < (ds.length : Int) := by omega
        obtain ⟨b0, o0, rfl, hb, hce⟩ := HD.out (by omega)
        have hget : ds[k]? = some ds[k] := List.getElem?_eq_getElem hlt
        obtain ⟨g0, g1, g2, g3, Aw, nw, cw, g4, hsw⟩ := hce k _ hget
        replace g0 := below_cell HB.out g0
        replace g1 := below_cell HB.out g1
        replace g2 := below_cell HB.out g2
        replace g3 := below_cell HB.out g3
        replace g4 := below_cell HB.out g4
        have HSd := Lib.hid (HSh.out _ (List.getElem_mem hlt))
        have HOk := Lib.hid (show okD ds k = (deedB ds[k] && !memB ((ds.take k).map (·.nm)) ds[k].nm) by unfold okD; rw [show ds.getD k noDe = ds[k] by simp [List.getD, hlt]])
        have HTk := Lib.hid (show (ds.take (k + 1)).map (·.nm) = (ds.take k).map (·.nm) ++ [ds[k].nm] by rw [List.take_add_one, hget, List.map_append]; rfl)
        have HW := Lib.hid (hsw.below HB.out)
        clear hce hget hsw
        generalize ds[k] = d at *
        obtain ⟨nm, yr, se, sl, wit⟩ := d
        simp only at g0 g1 g2 g3 g4 HW HOk HTk
        have HMa := Lib.hid (HM.out.alloc (.cells #[.string nm, .int .i64 yr, .string se, .string sl, .slice Aw nw cw] 63))
        have HBa := Lib.hid (HB.out.alloc HB.out.size (.cells #[.string nm, .int .i64 yr, .string se, .string sl, .slice Aw nw cw] 63))
        have HWa := Lib.hid (HW.out.alloc (.cells #[.string nm, .int .i64 yr, .string se, .string sl, .slice Aw nw cw] 63))
        have HY := Lib.hid (Cel.new wr 63 #[.string nm, .int .i64 yr, .string se, .string sl, .slice Aw nw cw])
        go_upto_region 7 with fail
        clear g0 g1 g2 g3 g4
        obtain ⟨B, hB⟩ : ∃ B, wr.heap.size = B := ⟨_, rfl⟩
        rw [hB] at HY
        generalize wr.alloc (.cells #[.string nm, .int .i64 yr, .string se, .string sl, .slice Aw nw cw] 63) = wa at *
        have c0 := HY.out.cell 0 (.string nm) rfl
        have c1 := HY.out.cell 1 (.int .i64 yr) rfl
        have c2 := HY.out.cell 2 (.string se) rfl
        have c3 := HY.out.cell 3 (.string sl) rfl
        have c4 := HY.out.cell 4 (.slice Aw nw cw) rfl
        have HC := Lib.hid (deed_any nm yr se sl wit Aw nw cw wa HWa.out HSd.out)
        go_wp2_with fail
        refine HC.out.mono ?_
        rintro e w6 ⟨rfl, hb6⟩
        have HB6 := Lib.hid (HBa.out.trans (hb6.mono HBa.out.size))
        have HM6 := Lib.hid (HMa.out.below HMa.out.lt hb6)
        have y6 := HY.out.below HY.out.lt hb6
        have e0 := y6.cell 0 (.string nm) rfl
        clear hb6 y6 c0 c1 c2 c3 c4 HC HY HWa
        cases hq : deedB ⟨nm, yr, se, sl, wit⟩ with
        | false =>
          have HR := Lib.hid (checkDF_no HL.out hlt (by rw [HOk.out, hq]; rfl))
          clear hq
          go_wp2
          go_ret
          exact ⟨by rw [HR.out]; rfl, HB6.out⟩
        | true =>
          have hlk := HM6.out.s.lookup (P := Tryz.prog) (t := 121) Tryz.underlying121 Tryz.underlying9 (Tryz.zeroValue4 _) nm false
          rw [getM_true] at hlk
          cases hm : memB ((ds.take k).map (·.nm)) nm with
          | true =>
            rw [hm, if_pos rfl] at hlk
            have HR := Lib.hid (checkDF_no HL.out hlt (by rw [HOk.out, hq, hm]; rfl))
            clear hq hm
            go_wp2
            go_ret
            exact ⟨by rw [HR.out]; rfl, HB6.out⟩
          | false =>
            have hnone : getM (trueKv ((ds.take k).map (·.nm))) nm = none := by rw [getM_true, hm, if_neg (by decide)]
            rw [hm, if_neg (by decide)] at hlk
            have HK := Lib.hid (show okD ds k = true by rw [HOk.out, hq, hm]; rfl)
            have hup := HM6.out.s.update (P := Tryz.prog) (t := 121) Tryz.underlying121 Tryz.underlying9 nm (.bool true) hnone
            have HP := Lib.hid (HM6.out.put nm (.bool true))
            have HG := Lib.hid (HM6.out.s.put_grown nm (.bool true))
            obtain ⟨w9, hw9⟩ : ∃ w9, mapPut w6 w.heap.size nm (.bool true) = w9 := ⟨_, rfl⟩
            rw [hw9] at hup HP HG
            have HB9 := Lib.hid (HB6.out.grown HG.out HB6.out.size (fun i e => by cases e; exact Nat.le_refl _))
            have HM9 := Lib.hid (show MapW w9 w.heap.size (trueKv ((ds.take k).map (·.nm) ++ [nm])) by unfold trueKv; rw [List.map_append]; exact HP.out)
            clear hq hm hnone hw9
            go_wp2
            refine ⟨⟨k + 1, by go_num, by omega, fun j hj => ?_, by rw [HTk.out]; exact HM9.out, HB9.out⟩, by simp [intOf]; omega⟩
            rcases Nat.lt_succ_iff_lt_or_eq.1 hj with q | q
            · exact HO.out j q
            · rw [q]; exact HK.out
      · have HR := Lib.hid (checkDF_yes HL.out (fun j hj => HO.out j (by omega)))
        go_wp2
        go_ret
        exact ⟨by rw [HR.out]; rfl, HB.out⟩
end

section
open Go Go.RowKit Go.Shelf
attribute [local go_sem] Oper.semAt_some

/-- What Chain answers. -/
def ChainP (ds : List De) (a b : ByteArray) (w : World) (e : Ending) (w' : World) : Prop :=
  Below w.heap.size w w' ∧ ∃ i, (dsI (knownF ds) b i).2 = [] ∧ match chainV ds (dsI (knownF ds) b i).1 a b with
    | none => e = .returned (.tuple #[.slice none 0 0, .int .i64 4])
    | some l => ∃ v, e = .returned (.tuple #[v, .int .i64 0]) ∧ Sl w' 1 v (namesV l)
theorem own_lit (w : World) (t : TypeId) (u : Value) : (w.alloc (.cells #[u] t)).ownsRow w.heap.size t 1 (.slice (some ⟨w.heap.size, 0, none⟩) 1 1) 1 [u] :=
  ⟨rfl, .inr ⟨w.heap.size, 1, #[u], rfl, Nat.le_refl _, World.alloc_heap_new w _, Nat.le_refl _, by decide, rfl, rfl⟩⟩
theorem MapW.step {w : World} {b : Nat} {m : Sm} (h : MapW w b (kvN m)) (s : ByteArray) : (Instr.lookup 104 (.map (some b)) (.string s) false).run Tryz.prog w = .ok (.int .i64 (((stepOf m s).getD 0 : Nat) : Int)) w := by
  have hlk := h.s.lookup (P := Tryz.prog) (t := 104) Tryz.underlying104 Tryz.underlying9 (Tryz.zeroValue3 _) s false
  rw [getM_kvN] at hlk
  rw [hlk]
  cases stepOf m s <;> rfl
theorem chN_some {m : ByteArray → List ByteArray} {away : Sm} {K : Nat} {out : List ByteArray} {s : ByteArray} (h : (m (out.getLastD ByteArray.empty)).find? (fun s => decide ((stepOf away s).getD 0 = K)) = some s) : chN m away (K + 1) out = chN m away K (out ++ [s]) := by
  simp only [chN]
  rw [h]
theorem chN_none {m : ByteArray → List ByteArray} {away : Sm} {K : Nat} {out : List ByteArray} (h : (m (out.getLastD ByteArray.empty)).find? (fun s => decide ((stepOf away s).getD 0 = K)) = none) : chN m away (K + 1) out = chN m away K out := by
  simp only [chN]
  rw [h]
theorem find_at {p : ByteArray → Bool} {l : List ByteArray} {j : Nat} {s : ByteArray} (hs : l[j]? = some s) (hn : ∀ x ∈ l.take j, p x = false) (hp : p s = true) : l.find? p = some s := by
  have hj : j < l.length := (List.getElem?_eq_some_iff.1 hs).1
  have e : l = l.take j ++ s :: l.drop (j + 1) := by
    have h1 := (List.getElem?_eq_some_iff.1 hs).2
    rw [← h1, ← List.drop_eq_getElem_cons hj, List.take_append_drop]
  rw [e, List.find?_append, List.find?_eq_none.2 (fun x hx => by rw [hn x hx]; decide), List.find?_cons, hp]
  rfl
theorem equalIn_nil (w : World) (d : Nat) (A : Option Addr) (na ca : Nat) : (Op.equalIn (d + 1) 22 (.slice A na ca) (.slice none 0 0)).run Tryz.prog w = .ok A.isNone w := by
  cases A <;> simp [Op.equalIn, run_underlying Tryz.underlying22, Result.andThen]
theorem eq_nil (w : World) (A : Option Addr) (na ca : Nat) : (binOp BinOp.eql 22 (.slice A na ca) (.slice none 0 0)).run Tryz.prog w = .ok (.bool A.isNone) w := by
  have : (Op.equal 22 (.slice A na ca) (.slice none 0 0)).run Tryz.prog w = .ok A.isNone w := equalIn_nil w 9999 A na ca
  simp [binOp, go_sem, this, Result.andThen]
theorem dsS_new (d : Nat) : ∀ (l : List ByteArray) (out : Sm) (q : List ByteArray), ∀ p ∈ (dsS d l out q).1, p ∈ out ∨ p.2 = d := by
  intro l
  induction l with
  | nil => intro out q p hp; exact .inl hp
  | cons s l ih =>
    intro out q p hp
    simp only [dsS] at hp
    split at hp
    · exact ih _ _ p hp
    · rcases ih _ _ p hp with k | k
      · rcases List.mem_append.1 k with z | z
        · exact .inl z
        · rw [List.mem_singleton.1 z]; exact .inr rfl
      · exact .inr k
theorem stepOf_le {m : Sm} {k : Nat} (h : ∀ p ∈ m, p.2 ≤ k) (s : ByteArray) : (stepOf m s).getD 0 ≤ k := by
  unfold stepOf
  cases hf : m.find? (fun q => decide (s = q.1)) with
  | none => exact Nat.zero_le _
  | some q => exact h q (List.mem_of_find?_eq_some hf)
theorem dsI_near (m : ByteArray → List ByteArray) (frm : ByteArray) : ∀ i, ∀ p ∈ (dsI m frm i).1, p.2 ≤ i := by
  intro i
  induction i with
  | zero => intro p hp; simp [dsI] at hp; subst hp; exact Nat.le_refl _
  | succ i ih =>
    intro p hp
    cases hq : (dsI m frm i).2 with
    | nil =>
      simp only [dsI] at hp
      rw [hq] at hp
      exact Nat.le_succ_of_le (ih p hp)
    | cons s q =>
      rw [dsI_next hq] at hp
      rcases dsS_new _ _ _ _ p hp with k | k
      · exact Nat.le_succ_of_le (ih p k)
      · rw [k]; exact Nat.succ_le_succ (stepOf_le ih s)
set_option maxHeartbeats 1000000 in
theorem chain_bad (r : Int) (hr : r = 3 ∨ r = 102) (v : Value) (ds : List De) (a b : ByteArray) (w : World) (h : DeedsV w v ds) (hs : ShortDs ds) (hc : checkDF ds = r) :
    Calls Tryz.prog 19 #[v, .string a, .string b] w fun e w' => e = .returned (.tuple #[.slice none 0 0, .int .i64 r]) ∧ Below w.heap.size w w' := by
  have HC := Lib.hid (checkDeeds_any v ds w h hs)
  rw [hc] at HC
  clear h hs hc
  rcases hr with rfl | rfl
  all_goals
    go_enter Tryz.func19, Tryz.ntmps19
    go_wp2_with fail
    refine HC.out.mono ?_
    rintro e w1 ⟨rfl, hb1⟩
    have HB := Lib.hid hb1
    clear hb1
    go_wp2
    go_ret2
    exact ⟨rfl, HB.out⟩
set_option maxRecDepth 100000 in
set_option maxHeartbeats 4000000 in
theorem chain_good (v : Value) (ds : List De) (a b : ByteArray) (w : World) (h : DeedsV w v ds) (hs : ShortDs ds) (hc : checkDF ds = 0) :
    Calls Tryz.prog 19 #[v, .string a, .string b] w (ChainP ds a b w) := by
  have HC := Lib.hid (checkDeeds_any v ds w h hs)
  rw [hc] at HC
  have hf := checkDF_few hc
  have HMet := Lib.hid (fun w' h' => met_any v ds w' h' hf)
  have HDv := Lib.hid h
  have HF := Lib.hid hf
  clear h hs hc hf
  go_enter Tryz.func19, Tryz.ntmps19
  go_wp2_with fail
  refine HC.out.mono ?_
  rintro e w1 ⟨rfl, hb1⟩
  have HB1 := Lib.hid hb1
  clear hb1 HC
  go_wp2_with fail
  refine (HMet.out w1 (HDv.out.below HB1.out)).mono ?_
  rintro e w2 ⟨rfl, hm2, hb2⟩
  have HB2 := Lib.hid (HB1.out.trans (hb2.mono HB1.out.size))
  have HM2 := Lib.hid hm2
  obtain ⟨bk, hbk⟩ : ∃ bk, w1.heap.size = bk := ⟨_, rfl⟩
  rw [hbk] at HM2 ⊢
  clear hm2 hb2 hbk HMet
  go_wp2_with fail
  refine (distance_any bk ds b w2 HM2.out HF.out).mono ?_
  rintro e w3 ⟨i, hi, hi0, rfl, hw3, hb3⟩
  have HB3 := Lib.hid (HB2.out.trans (hb3.mono HB2.out.size))
  have HM3 := Lib.hid (HM2.out.below hb3)
  have HA3 := Lib.hid hw3
  have HI0 := Lib.hid hi0
  obtain ⟨ba, hba⟩ : ∃ ba, w2.heap.size = ba := ⟨_, rfl⟩
  rw [hba] at HA3 ⊢
  have HST := Lib.hid (fun s => Nat.le_trans (stepOf_le (dsI_near (knownF ds) b i) s) hi)
  have HX := Lib.hid (show ∀ e w', Below w.heap.size w w' → (match chainV ds (dsI (knownF ds) b i).1 a b with
    | none => e = .returned (.tuple #[.slice none 0 0, .int .i64 4])
    | some l => ∃ v, e = .returned (.tuple #[v, .int .i64 0]) ∧ Sl w' 1 v (namesV l)) → ChainP ds a b w e w' from fun e w' h1 h2 => ⟨h1, i, HI0.out, h2⟩)
  clear hw3 hb3 hba hi0 HI0 HM2 HB2 HB1 HDv
  generalize (dsI (knownF ds) b i).1 = away at *
  have hla := HA3.out.s.lookup (P := Tryz.prog) (t := 104) Tryz.underlying104 Tryz.underlying9 (Tryz.zeroValue3 _) a true
  rw [getM_kvN] at hla
  obtain ⟨Aa, na, ca, hka', _, hka1, hka0⟩ := HM3.out.look a
  obtain ⟨Ab, nb, cb, hkb', _, hkb1, hkb0⟩ := HM3.out.look b
  have hka := hka' w3 (Below.refl _ _)
  have hkb := hkb' w3 (Below.refl _ _)
  have HLook := Lib.hid (fun s => HM3.out.look s)
  have eqn : ∀ (A : Option Addr) (n c : Nat), (binOp BinOp.eql 22 (.slice A n c) (.slice none 0 0)).run Tryz.prog w3 = .ok (.bool A.isNone) w3 := fun A n c => eq_nil w3 A n c
  clear hka' hkb'
  cases hsa : stepOf away a with
  | none =>
    rw [hsa] at hla
    simp only [Option.map_none] at hla
    have HR := Lib.hid (show chainV ds away a b = none by unfold chainV; rw [hsa])
    clear hka hkb hka1 hka0 hkb1 hkb0 hsa
    go_wp2
    go_ret2
    exact HX.out _ _ HB3.out (by rw [HR.out]; rfl)
  | some n0 =>
    rw [hsa] at hla
    simp only [Option.map_some] at hla
    have HN0 := Lib.hid (show n0 ≤ 900 by have := HST.out a; rw [hsa] at this; exact this)
    by_cases ha : a ∈ allF ds
    · obtain ⟨ga, rfl⟩ := hka1 ha
      by_cases hb : b ∈ allF ds
      · obtain ⟨gb, rfl⟩ := hkb1 hb
        have HR := Lib.hid (show chainV ds away a b = some (chN (knownF ds) away n0 [a]) by unfold chainV; rw [hsa]; simp only; rw [if_pos ⟨ha, hb⟩])
        clear hsa ha hb hka1 hka0 hkb1 hkb0
        have HO0 := Lib.hid (own_lit w3 9 (.string a))
        have HBa := Lib.hid (below_alloc' w3 (.cells #[.string a] 9))
        go_wp2
        clear hla hka hkb eqn
        obtain ⟨m, hm⟩ : ∃ m, knownF ds = m := ⟨_, rfl⟩
        rw [hm] at HR HLook
        clear hm
        go_loopw [11, 13] (fun t11 t13 wr => ∃ (k : Nat) (out : List ByteArray), t11 = .int .i64 k ∧ k ≤ 900 ∧ Hid (out.length + k ≤ 901 ∧ out ≠ []) ∧ Hid (chN m away n0 [a] = chN m away k out) ∧ Hid (wr.ownsRow w3.heap.size 9 1 t13 out.length (namesV out)) ∧ Hid (Below w3.heap.size w3 wr)) (fun t11 _ _ => (intOf t11).toNat)
        case atStart => exact ⟨n0, [a], rfl, HN0.out, ⟨by have := HN0.out; simp; omega, by simp⟩, rfl, HO0.out, HBa.out⟩
        case round =>
          clear HO0 HBa
          obtain ⟨k, out, rfl, hk, HL, HE, HO, HB⟩ := hrel
          obtain ⟨A5, c5, e5, _⟩ := own_shape HO.out
          subst e5
          by_cases hk0 : 0 < k
          · obtain ⟨K, rfl⟩ : ∃ K, k = K + 1 := ⟨k - 1, by omega⟩
            have hki : (0 : Int) < ((K + 1 : Nat) : Int) := by omega
            obtain ⟨pre, last, hout⟩ : ∃ pre last, out = pre ++ [last] := ⟨out.dropLast, out.getLast HL.out.2, (List.dropLast_concat_getLast HL.out.2).symm⟩
            obtain ⟨_, _, _, e4, _, _, _, hcl⟩ := (Sl.of_own HO.out).open2 (by decide)
            cases e4
            obtain ⟨b4, o4, e4, hbb, hce⟩ := hcl (by rw [hout]; simp)
            subst e4
            have d1 := hce (out.length - 1) (.string last) (by rw [hout]; simp [namesV])
            have HLast := Lib.hid (show out.getLastD ByteArray.empty = last by rw [hout]; simp)
            obtain ⟨n5, hn5⟩ : ∃ n5, out.length = n5 + 1 := ⟨pre.length, by rw [hout]; simp⟩
            rw [hn5, Nat.add_sub_cancel] at d1
            have HN5 := Lib.hid hn5
            obtain ⟨A2, n2, c2, hlk', hsl, _, _⟩ := HLook.out last
            have hlk := hlk' wr HB.out
            obtain ⟨_, _, _, e2, hn2, hcap2, hcm2, hcl2⟩ := hsl.open2 (by decide)
            cases e2
            rw [namesV_length] at hn2
            obtain rfl : n2 = (m last).length := by omega
            have HCl := Lib.hid hcl2
            have HS1 := Lib.hid (fun s h => chN_some (m := m) (away := away) (K := K) (out := out) (s := s) h)
            have HS0 := Lib.hid (fun h => chN_none (m := m) (away := away) (K := K) (out := out) h)
            rw [HLast.out] at HS1 HS0
            generalize m last = ml at *
            have hw1 : IntKind.i64.wrap (((n5 + 1 : Nat) : Int) - 1) = (n5 : Int) := by rw [IntWalk.i64_in _ (by have := HL.out.1; omega)]; omega
            have hn51 : n5 < out.length := by omega
            have HO5 := Lib.hid HO.out
            rw [hn5] at HO5
            clear hce hcl hbb hlk' hsl hn2 hcl2 hout HLast hk
            obtain ⟨W1, hW1⟩ : ∃ W1, W1 = wr := ⟨_, rfl⟩
            subst hW1
            rw [hn5]
            have hK9 : K ≤ 900 := by have := HL.out.1; omega
            have hw2 : IntKind.i64.wrap (((K + 1 : Nat) : Int) - 1) = (K : Int) := by rw [IntWalk.i64_in _ (by omega)]; omega
            go_wp2
            clear hlk d1 hw1
            go_loopw [13, 61] (fun t13 t61 wr => t13 = .slice (some ⟨b4, o4, none⟩) (n5 + 1) c5 ∧ ∃ j : Nat, t61 = .int .i64 j ∧ j ≤ ml.length ∧ wr = W1 ∧ Hid (∀ x ∈ ml.take j, decide ((stepOf away x).getD 0 = K) = false)) (fun _ t61 _ => ml.length - (intOf t61).toNat)
            case atStart => exact ⟨rfl, 0, rfl, by omega, rfl, fun x hx => by cases hx⟩
            case round =>
              obtain ⟨rfl, j, rfl, hj, hwr, HNo⟩ := hrel
              replace hwr := hwr.symm
              subst hwr
              by_cases hltj : j < ml.length
              · have hji : (j : Int) < (ml.length : Int) := by omega
                obtain ⟨b2, o2, rfl, hb2, hce⟩ := HCl.out (by omega)
                have hget : ml[j]? = some ml[j] := List.getElem?_eq_getElem hltj
                have d1 := below_cell HB.out (hce j (.string ml[j]) (by simp [namesV, hget]))
                have HTk := Lib.hid (show ml.take (j + 1) = ml.take j ++ [ml[j]] by rw [List.take_add_one, hget]; rfl)
                have HGet := Lib.hid hget
                have hst := (HA3.out.below HA3.out.lt HB.out).step ml[j]
                have hy := HST.out ml[j]
                clear hce hget hb2
                generalize ml[j] = s at *
                obtain ⟨y, hye⟩ : ∃ y, (stepOf away s).getD 0 = y := ⟨_, rfl⟩
                rw [hye] at hst hy
                have HY := Lib.hid hye
                clear hye
                by_cases hyk : y = K
                · have hT : ((y : Int) == (K : Int)) = true := by rw [beq_iff_eq, hyk]
                  have HN := Lib.hid (HS1.out s (find_at HGet.out HNo.out (by rw [HY.out]; exact decide_eq_true hyk)))
                  have HO7 := Lib.hid (HO5.out.alloc (.cells #[.string s] 9))
                  have HB7 := Lib.hid (HB.out.alloc HB.out.size (.cells #[.string s] 9))
                  have HS7 := Lib.hid (Sl.new (s := 1) W1 9 1 1 #[.string s] rfl (Nat.le_refl _) (by decide))
                  have HL1 := Lib.hid (show n5 + 1 + 1 ≤ 1048576 by have := HL.out.1; omega)
                  clear hyk
                  go_wp2_with (at_builtin; refine appStr _ _ rfl rfl rfl rfl HO7.out HS7.out (by simp [Value.oneCell']) (N := n5 + 1 + 1) (by simp) HL1.out HB7.out.size ?_; intro A8 c8 w8 hap)
                  have HB8 := Lib.hid (below_of_own hap.grown HO7.out HB7.out (Nat.le_refl _))
                  have HO8 := Lib.hid hap.own
                  clear hap d1 hst
                  go_wp2
                  refine ⟨⟨K, out ++ [s], by go_num, by omega, ⟨by have := HL.out.1; simp; omega, by simp⟩, HE.out.trans HN.out, ?_, HB8.out⟩, by simp [intOf]⟩
                  rw [List.length_append, HN5.out, namesV_append]
                  exact HO8.out
                · have hT : ((y : Int) == (K : Int)) = false := by rw [beq_eq_false_iff_ne]; omega
                  have HNx := Lib.hid (show decide ((stepOf away s).getD 0 = K) = false by rw [HY.out]; exact decide_eq_false hyk)
                  clear hyk
                  go_wp2
                  go_roundw
                  case rel => exact ⟨rfl, j + 1, by go_num, by omega, trivial, fun x hx => by
                    rw [HTk.out] at hx
                    rcases List.mem_append.1 hx with q | q
                    · exact HNo.out x q
                    · rw [List.mem_singleton.1 q]; exact HNx.out⟩
                  case measure => simp [intOf]; omega
              · have HN := Lib.hid (HS0.out (List.find?_eq_none.2 fun x hx => by
                  have := HNo.out x (by rw [List.take_of_length_le (by omega)]; exact hx)
                  rw [this]; decide))
                go_wp2
                refine ⟨⟨K, out, by go_num, by omega, ⟨by have := HL.out.1; omega, HL.out.2⟩, HE.out.trans HN.out, ?_, HB.out⟩, by simp [intOf]⟩
                rw [HN5.out]
                exact HO5.out
          · have hk00 : k = 0 := by omega
            subst hk00
            have HF := Lib.hid (HB3.out.trans (HB.out.mono HB3.out.size))
            have HS := Lib.hid (Sl.of_own HO.out)
            clear hk0
            go_wp2
            go_ret2
            refine HX.out _ _ HF.out ?_
            rw [HR.out, HE.out]
            exact ⟨_, rfl, HS.out⟩
      · obtain ⟨rfl, rfl, rfl⟩ := hkb0 hb
        have HR := Lib.hid (show chainV ds away a b = none by unfold chainV; rw [hsa]; simp only; rw [if_neg (fun q => hb q.2)])
        clear hsa ha hb hka1 hka0 hkb1 hkb0
        go_wp2
        go_ret2
        exact HX.out _ _ HB3.out (by rw [HR.out]; rfl)
    · obtain ⟨rfl, rfl, rfl⟩ := hka0 ha
      have HR := Lib.hid (show chainV ds away a b = none by unfold chainV; rw [hsa]; simp only; rw [if_neg (fun q => ha q.1)])
      clear hsa ha hka1 hka0 hkb1 hkb0
      go_wp2
      go_ret2
      exact HX.out _ _ HB3.out (by rw [HR.out]; rfl)
end
end Go.Proofs.YtdmcopjbckelmaaGreatDoor
