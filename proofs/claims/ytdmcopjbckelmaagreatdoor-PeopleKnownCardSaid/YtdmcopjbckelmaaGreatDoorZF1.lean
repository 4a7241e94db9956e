/- Walks of the package people: Parents, Children, Merge, Same. Conditions: those stated. -/
import Derived.Test.YtdmcopjbckelmaaGreatDoorZE
import Derived.Test.YtdmcopjbckelmaaGreatDoorZM1
namespace Go.Proofs.YtdmcopjbckelmaaGreatDoor
open Go Go.RowKit Go.Shelf
attribute [local go_sem] Oper.semAt_some

theorem beqL (a b : ByteArray) : (a.toList == b.toList) = decide (a = b) := by
  rw [Bool.eq_iff_iff, decide_eq_true_eq]
  exact Lib.bytes_beq_iff _ _
/-- Names, and an error. -/
def NamesP (l : List ByteArray) (r : Int) (w : World) (e : Ending) (w' : World) : Prop := Below w.heap.size w w' ∧ ∃ v, e = .returned (.tuple #[v, .int .i64 r]) ∧ Sl w' 1 v (namesV l)
set_option maxRecDepth 100000 in
set_option maxHeartbeats 4000000 in
theorem pParents_bad (r : Int) (hr : r = 3 ∨ r = 100 ∨ r = 2) (A : Option Addr) (n c : Nat) (F : Option Addr) (m d : Nat) (ps : List ByteArray) (fs : List Fa) (a : ByteArray) (w : World) (h : NetC w A n c F m d ps fs) (hs : Short ps) (hc : namedF ps fs [a] = r) :
    Calls Tryz.prog 29 #[.agg #[.slice A n c, .slice F m d], .string a] w (NamesP [] r w) := by
  have hb0 := (below_alloc' w (.cells #[.slice A n c, .slice F m d] 25)).alloc (by simp) (.cells #[.string a] 9)
  have hS1 := Sl.new (s := 1) (w.alloc (.cells #[.slice A n c, .slice F m d] 25)) 9 1 1 #[.string a] rfl (Nat.le_refl _) (by decide)
  rw [World.size_alloc] at hS1
  have HK := Lib.hid (checkNames_any A n c F m d ps fs (.slice (some ⟨w.heap.size + 1, 0, none⟩) 1 1) [a] _ (h.below hb0) hs hS1)
  rw [hc] at HK
  clear h hs hc hS1
  rcases hr with rfl | rfl | rfl
  all_goals
    go_enter Tryz.func29, Tryz.ntmps29
    go_wp2_with fail
    refine HK.out.mono ?_
    rintro e w1 ⟨rfl, hb1⟩
    have HB := Lib.hid (hb0.trans (hb1.mono hb0.size))
    clear hb0 hb1
    go_wp2
    go_ret2
    exact ⟨HB.out, _, rfl, Sl.nil0 _ _⟩
set_option maxRecDepth 100000 in
set_option maxHeartbeats 4000000 in
theorem pParents_good (A : Option Addr) (n c : Nat) (F : Option Addr) (m d : Nat) (ps : List ByteArray) (fs : List Fa) (a : ByteArray) (w : World) (h : NetC w A n c F m d ps fs) (hs : Short ps) (hc : namedF ps fs [a] = 0) (hfew : fs.length ≤ 48) :
    Calls Tryz.prog 29 #[.agg #[.slice A n c, .slice F m d], .string a] w (NamesP (parentsF fs a) 0 w) := by
  have hb0 := (below_alloc' w (.cells #[.slice A n c, .slice F m d] 25)).alloc (by simp) (.cells #[.string a] 9)
  have y0 := (Cel.new w 25 #[.slice A n c, .slice F m d]).alloc (.cells #[.string a] 9)
  have hS1 := Sl.new (s := 1) (w.alloc (.cells #[.slice A n c, .slice F m d] 25)) 9 1 1 #[.string a] rfl (Nat.le_refl _) (by decide)
  rw [World.size_alloc] at hS1
  have HK := Lib.hid (checkNames_any A n c F m d ps fs (.slice (some ⟨w.heap.size + 1, 0, none⟩) 1 1) [a] _ (h.below hb0) hs hS1)
  rw [hc] at HK
  have HN := Lib.hid h
  have HP := Lib.hid (fun w' h' => parents_any A n c F m d ps fs a w' h' hfew)
  clear h hs hc hS1
  go_enter Tryz.func29, Tryz.ntmps29
  go_wp2_with fail
  refine HK.out.mono ?_
  rintro e w1 ⟨rfl, hb1⟩
  have HB := Lib.hid (hb0.trans (hb1.mono hb0.size))
  have HY := Lib.hid (y0.below y0.lt hb1)
  have z0 := HY.out.cell 0 _ rfl
  have z1 := HY.out.cell 1 _ rfl
  clear hb0 hb1 y0 HK
  go_wp2_with fail
  refine (HP.out w1 (HN.out.below HB.out)).mono ?_
  rintro e w2 ⟨v, rfl, ho, hb2⟩
  have HB2 := Lib.hid (HB.out.trans (hb2.mono HB.out.size))
  have HS2 := Lib.hid (Sl.of_own ho)
  clear hb2 ho z0 z1
  go_wp2
  go_ret2
  exact ⟨HB2.out, _, rfl, HS2.out⟩
theorem pParents_any (A : Option Addr) (n c : Nat) (F : Option Addr) (m d : Nat) (ps : List ByteArray) (fs : List Fa) (a : ByteArray) (w : World) (h : NetC w A n c F m d ps fs) (hs : Short ps) :
    Calls Tryz.prog 29 #[.agg #[.slice A n c, .slice F m d], .string a] w (NamesP (if namedF ps fs [a] = 0 then parentsF fs a else []) (namedF ps fs [a]) w) := by
  rcases namedF_cases ps fs [a] with hr | ⟨hc, _, _, hfew, _⟩
  · rw [if_neg (by omega)]
    exact pParents_bad _ hr A n c F m d ps fs a w h hs rfl
  · rw [if_pos hc]
    have := pParents_good A n c F m d ps fs a w h hs hc hfew
    rw [hc]
    exact this
set_option maxRecDepth 100000 in
set_option maxHeartbeats 4000000 in
theorem pChildren_bad (r : Int) (hr : r = 3 ∨ r = 100 ∨ r = 2) (A : Option Addr) (n c : Nat) (F : Option Addr) (m d : Nat) (ps : List ByteArray) (fs : List Fa) (a : ByteArray) (w : World) (h : NetC w A n c F m d ps fs) (hs : Short ps) (hc : namedF ps fs [a] = r) :
    Calls Tryz.prog 31 #[.agg #[.slice A n c, .slice F m d], .string a] w (NamesP [] r w) := by
  have hb0 := (below_alloc' w (.cells #[.slice A n c, .slice F m d] 25)).alloc (by simp) (.cells #[.string a] 9)
  have hS1 := Sl.new (s := 1) (w.alloc (.cells #[.slice A n c, .slice F m d] 25)) 9 1 1 #[.string a] rfl (Nat.le_refl _) (by decide)
  rw [World.size_alloc] at hS1
  have HK := Lib.hid (checkNames_any A n c F m d ps fs (.slice (some ⟨w.heap.size + 1, 0, none⟩) 1 1) [a] _ (h.below hb0) hs hS1)
  rw [hc] at HK
  clear h hs hc hS1
  rcases hr with rfl | rfl | rfl
  all_goals
    go_enter Tryz.func31, Tryz.ntmps31
    go_wp2_with fail
    refine HK.out.mono ?_
    rintro e w1 ⟨rfl, hb1⟩
    have HB := Lib.hid (hb0.trans (hb1.mono hb0.size))
    clear hb0 hb1
    go_wp2
    go_ret2
    exact ⟨HB.out, _, rfl, Sl.nil0 _ _⟩
set_option maxRecDepth 100000 in
set_option maxHeartbeats 4000000 in
theorem pChildren_good (A : Option Addr) (n c : Nat) (F : Option Addr) (m d : Nat) (ps : List ByteArray) (fs : List Fa) (a : ByteArray) (w : World) (h : NetC w A n c F m d ps fs) (hs : Short ps) (hc : namedF ps fs [a] = 0) (hfew : fs.length ≤ 48) :
    Calls Tryz.prog 31 #[.agg #[.slice A n c, .slice F m d], .string a] w (NamesP (childrenF fs a) 0 w) := by
  have hb0 := (below_alloc' w (.cells #[.slice A n c, .slice F m d] 25)).alloc (by simp) (.cells #[.string a] 9)
  have y0 := (Cel.new w 25 #[.slice A n c, .slice F m d]).alloc (.cells #[.string a] 9)
  have hS1 := Sl.new (s := 1) (w.alloc (.cells #[.slice A n c, .slice F m d] 25)) 9 1 1 #[.string a] rfl (Nat.le_refl _) (by decide)
  rw [World.size_alloc] at hS1
  have HK := Lib.hid (checkNames_any A n c F m d ps fs (.slice (some ⟨w.heap.size + 1, 0, none⟩) 1 1) [a] _ (h.below hb0) hs hS1)
  rw [hc] at HK
  have HN := Lib.hid h
  have HP := Lib.hid (fun w' h' => children_any A n c F m d ps fs a w' h' hfew)
  clear h hs hc hS1
  go_enter Tryz.func31, Tryz.ntmps31
  go_wp2_with fail
  refine HK.out.mono ?_
  rintro e w1 ⟨rfl, hb1⟩
  have HB := Lib.hid (hb0.trans (hb1.mono hb0.size))
  have HY := Lib.hid (y0.below y0.lt hb1)
  have z0 := HY.out.cell 0 _ rfl
  have z1 := HY.out.cell 1 _ rfl
  clear hb0 hb1 y0 HK
  go_wp2_with fail
  refine (HP.out w1 (HN.out.below HB.out)).mono ?_
  rintro e w2 ⟨v, rfl, ho, hb2⟩
  have HB2 := Lib.hid (HB.out.trans (hb2.mono HB.out.size))
  have HS2 := Lib.hid (Sl.of_own ho)
  clear hb2 ho z0 z1
  go_wp2
  go_ret2
  exact ⟨HB2.out, _, rfl, HS2.out⟩
theorem pChildren_any (A : Option Addr) (n c : Nat) (F : Option Addr) (m d : Nat) (ps : List ByteArray) (fs : List Fa) (a : ByteArray) (w : World) (h : NetC w A n c F m d ps fs) (hs : Short ps) :
    Calls Tryz.prog 31 #[.agg #[.slice A n c, .slice F m d], .string a] w (NamesP (if namedF ps fs [a] = 0 then childrenF fs a else []) (namedF ps fs [a]) w) := by
  rcases namedF_cases ps fs [a] with hr | ⟨hc, _, _, hfew, _⟩
  · rw [if_neg (by omega)]
    exact pChildren_bad _ hr A n c F m d ps fs a w h hs rfl
  · rw [if_pos hc]
    have := pChildren_good A n c F m d ps fs a w h hs hc hfew
    rw [hc]
    exact this
set_option maxRecDepth 100000 in
set_option maxHeartbeats 4000000 in
theorem both_any (k : Int) (x y : ByteArray) (t : Int) (a b : ByteArray) (w : World) :
    Calls Tryz.prog 90 #[.agg #[.int .i64 k, .string x, .string y, .int .i64 t], .string a, .string b] w fun e w' => e = .returned (.bool (bothB a b ⟨k, x, y, t⟩)) ∧ Below w.heap.size w w' := by
  have hb0 := below_alloc' w (.cells #[.int .i64 k, .string x, .string y, .int .i64 t] 76)
  have y0 := Cel.new w 76 #[.int .i64 k, .string x, .string y, .int .i64 t]
  obtain ⟨W, hW⟩ : ∃ W, w.alloc (.cells #[.int .i64 k, .string x, .string y, .int .i64 t] 76) = W := ⟨_, rfl⟩
  rw [hW] at hb0 y0
  have z0 := y0.cell 0 _ rfl
  have z1 := y0.cell 1 _ rfl
  have z2 := y0.cell 2 _ rfl
  have HB := Lib.hid hb0
  have HK := Lib.hid (pair_any k W)
  have HR := Lib.hid (show bothB a b ⟨k, x, y, t⟩ = (pairB k && (x.toList == a.toList && y.toList == b.toList || x.toList == b.toList && y.toList == a.toList)) by
    unfold bothB
    simp only [beqL, Bool.decide_and])
  clear hb0 y0
  generalize bothB a b ⟨k, x, y, t⟩ = r at *
  go_enter Tryz.func90, Tryz.ntmps90
  go_wp2_with fail
  refine HK.out.mono ?_
  rintro e w' ⟨rfl, rfl⟩
  cases q0 : pairB k <;> cases q1 : x.toList == a.toList <;> cases q2 : y.toList == b.toList <;> cases q3 : x.toList == b.toList <;> cases q4 : y.toList == a.toList
  all_goals
    have hr := Lib.hid (show r = _ by rw [HR.out, q0, q1, q2, q3, q4])
    clear HR
    go_wp2
    go_ret
    exact ⟨by rw [hr.out]; rfl, HB.out⟩
/-- Two rows that grow beside each other, in the two cells of a box. -/
structure TwoS (w wr : World) (base Y : Nat) (t ea : TypeId) (sa : Nat) (eb : TypeId) (sb : Nat) (va vb : Value) (n m : Nat) (xs ys : List Value) : Prop where
  cel : Cel wr Y t #[va, vb]
  a : wr.ownsRow base ea sa va n xs
  b : wr.ownsRow base eb sb vb m ys
  ne : ∀ g, va.ownBlock = some g → vb.ownBlock ≠ some g
  hY : Y < base
  below : Below w.heap.size w wr
section
variable {w wr w1 : World} {base Y : Nat} {t ea eb : TypeId} {sa sb : Nat} {va vb : Value} {n m N c : Nat} {A : Option Addr} {xs ys news : List Value}
theorem TwoS.alloc (h : TwoS w wr base Y t ea sa eb sb va vb n m xs ys) (o : Obj) : TwoS w (wr.alloc o) base Y t ea sa eb sb va vb n m xs ys := ⟨h.cel.alloc o, h.a.alloc o, h.b.alloc o, h.ne, h.hY, h.below.alloc h.below.size o⟩
theorem TwoS.grow (h : TwoS w wr base Y t ea sa eb sb va vb n m xs ys) (hb : Below wr.heap.size wr w1) : TwoS w w1 base Y t ea sa eb sb va vb n m xs ys := ⟨h.cel.below h.cel.lt hb, own_below h.a hb, own_below h.b hb, h.ne, h.hY, h.below.trans (hb.mono h.below.size)⟩
theorem TwoS.putA (h : TwoS w wr base Y t ea sa eb sb va vb n m xs ys) (hw : w.heap.size ≤ Y) (hap : Appended base ea sa va xs news wr w1 A N c) : TwoS w (w1.setCell ⟨Y, 0, none⟩ (.slice A N c)) base Y t ea sa eb sb (.slice A N c) vb N m (xs ++ news) ys := by
  have hY := h.hY
  have hne : some Y ≠ va.ownBlock := fun e => by have := own_ge h.a e.symm; omega
  have c1 := h.cel.kept hap.grown hne
  have b1 := own_keep h.b hap.grown (fun g h1 h2 => h.ne g h2 h1)
  have dis : ∀ g, (Value.slice A N c).ownBlock = some g → vb.ownBlock ≠ some g := by
    rcases hap.block with e | e
    · rw [e]; exact h.ne
    · rw [e]; intro g e1 e2
      injection e1 with e1
      subst e1
      have := own_lt h.b e2
      omega
  have bl := below_of_own hap.grown h.a h.below (by omega)
  exact ⟨c1.setAt 0 _, own_ne hap.own (fun e => by have := own_ge hap.own e; simp at this; omega) _, own_ne b1 (fun e => by have := own_ge b1 e; simp at this; omega) _, dis, hY, bl.setCell (by simp; omega) _⟩
theorem TwoS.putB (h : TwoS w wr base Y t ea sa eb sb va vb n m xs ys) (hw : w.heap.size ≤ Y) (hap : Appended base eb sb vb ys news wr w1 A N c) : TwoS w (w1.setCell ⟨Y, 1, none⟩ (.slice A N c)) base Y t ea sa eb sb va (.slice A N c) n N xs (ys ++ news) := by
  have hY := h.hY
  have hne : some Y ≠ vb.ownBlock := fun e => by have := own_ge h.b e.symm; omega
  have c1 := h.cel.kept hap.grown hne
  have a1 := own_keep h.a hap.grown (fun g h1 h2 => h.ne g h1 h2)
  have dis : ∀ g, va.ownBlock = some g → (Value.slice A N c).ownBlock ≠ some g := by
    rcases hap.block with e | e
    · rw [e]; exact h.ne
    · rw [e]; intro g e1 e2
      injection e2 with e2
      subst e2
      have := own_lt h.a e1
      omega
  have bl := below_of_own hap.grown h.b h.below (by omega)
  exact ⟨c1.setAt 1 _, own_ne a1 (fun e => by have := own_ge a1 e; simp at this; omega) _, own_ne hap.own (fun e => by have := own_ge hap.own e; simp at this; omega) _, dis, hY, bl.setCell (by simp; omega) _⟩
theorem TwoS.midA (h : TwoS w wr base Y t ea sa eb sb va vb n m xs ys) (hap : Appended base ea sa va xs news wr w1 A N c) : Cel w1 Y t #[va, vb] :=
  h.cel.kept hap.grown (fun e => by have := own_ge h.a e.symm; have := h.hY; omega)
theorem TwoS.midB (h : TwoS w wr base Y t ea sa eb sb va vb n m xs ys) (hap : Appended base eb sb vb ys news wr w1 A N c) : Cel w1 Y t #[va, vb] :=
  h.cel.kept hap.grown (fun e => by have := own_ge h.b e.symm; have := h.hY; omega)
theorem TwoS.farA (h : TwoS w wr base Y t ea sa eb sb va vb n m xs ys) (hap : Appended base ea sa va xs news wr w1 A N c) {R : Nat} {t' : TypeId} {vs : Array Value} (hc : Cel wr R t' vs) (hR : R < Y) (u : Value) (j : Nat) : Cel (w1.setCell ⟨Y, j, none⟩ u) R t' vs :=
  (hc.kept hap.grown (fun e => by have := own_ge h.a e.symm; have := h.hY; omega)).other (by simp; omega) u
theorem TwoS.farB (h : TwoS w wr base Y t ea sa eb sb va vb n m xs ys) (hap : Appended base eb sb vb ys news wr w1 A N c) {R : Nat} {t' : TypeId} {vs : Array Value} (hc : Cel wr R t' vs) (hR : R < Y) (u : Value) (j : Nat) : Cel (w1.setCell ⟨Y, j, none⟩ u) R t' vs :=
  (hc.kept hap.grown (fun e => by have := own_ge h.b e.symm; have := h.hY; omega)).other (by simp; omega) u
end
theorem mergeF_snoc (a b : ByteArray) (l : List Fa) (f : Fa) : mergeF a b (l ++ [f]) = (mergeF a b l).bind fun gs => if bothB a b f then (if f.kind = 1 then none else some gs) else some (gs ++ [renF a b f]) := by
  induction l with
  | nil =>
    simp only [List.nil_append, mergeF]
    split
    · split <;> rfl
    · rfl
  | cons g l ih =>
    simp only [List.cons_append, mergeF]
    rw [ih]
    split
    · split
      · rfl
      · rfl
    · cases mergeF a b l with
      | none => rfl
      | some ms =>
        simp only [Option.bind_some, Option.map_some]
        split
        · split <;> rfl
        · rfl
theorem mergeF_take_none {a b : ByteArray} {fs : List Fa} {k : Nat} (h : mergeF a b (fs.take k) = none) : mergeF a b fs = none := by
  rw [mergeF_none] at h ⊢
  obtain ⟨f, hf, hq⟩ := h
  exact ⟨f, List.mem_of_mem_take hf, hq⟩
theorem mergeP_succ {b : ByteArray} {ps : List ByteArray} {k : Nat} {s : ByteArray} (h : ps[k]? = some s) : mergeP b (ps.take (k + 1)) = mergeP b (ps.take k) ++ (if s = b then [] else [s]) := by
  unfold mergeP
  rw [List.take_add_one, h, List.filter_append]
  congr 1
  by_cases e : s = b <;> simp [e]
theorem mergeP_len (b : ByteArray) (ps : List ByteArray) (k : Nat) : (mergeP b (ps.take k)).length ≤ k := by
  unfold mergeP
  exact Nat.le_trans (List.length_filter_le _ _) (by simp; omega)
/-- What Merge answers: people, facts, an error. -/
def mergeV (ps : List ByteArray) (fs : List Fa) (a b : ByteArray) : List ByteArray × List Fa × Int :=
  if namedF ps fs [a, b] ≠ 0 then ([], [], namedF ps fs [a, b]) else if a = b then ([], [], 2) else match mergeF a b fs with
    | none => ([], [], 101)
    | some gs => (mergeP b ps, gs, 0)
def MergeP (r : List ByteArray × List Fa × Int) (w : World) (e : Ending) (w' : World) : Prop :=
  Below w.heap.size w w' ∧ ∃ A n c F m d, e = .returned (.tuple #[.agg #[.slice A n c, .slice F m d], .int .i64 r.2.2]) ∧ NetC w' A n c F m d r.1 r.2.1
theorem net_nil (w : World) : NetC w none 0 0 none 0 0 [] [] := ⟨Sl.nil0 _ _, Sl.nil0 _ _⟩
set_option maxRecDepth 100000 in
set_option maxHeartbeats 4000000 in
theorem merge_bad (r : Int) (hr : r = 3 ∨ r = 100 ∨ r = 2) (A : Option Addr) (c : Nat) (F : Option Addr) (d : Nat) (ps : List ByteArray) (fs : List Fa) (a b : ByteArray) (w : World) (h : NetC w A ps.length c F fs.length d ps fs) (hs : Short ps) (hc : namedF ps fs [a, b] = r) :
    Calls Tryz.prog 40 #[.agg #[.slice A ps.length c, .slice F fs.length d], .string a, .string b] w (MergeP ([], [], r) w) := by
  have hb0 := ((below_alloc' w (.cells #[.slice A ps.length c, .slice F fs.length d] 25)).alloc (by simp) (.cells #[.slice none 0 0, .slice none 0 0] 25)).alloc (by simp; omega) (.cells #[.string a, .string b] 9)
  have y0 := ((Cel.new w 25 #[.slice A ps.length c, .slice F fs.length d]).alloc (.cells #[.slice none 0 0, .slice none 0 0] 25)).alloc (.cells #[.string a, .string b] 9)
  have y1 := (Cel.new (w.alloc (.cells #[.slice A ps.length c, .slice F fs.length d] 25)) 25 #[.slice none 0 0, .slice none 0 0]).alloc (.cells #[.string a, .string b] 9)
  have hS1 := Sl.new (s := 1) ((w.alloc (.cells #[.slice A ps.length c, .slice F fs.length d] 25)).alloc (.cells #[.slice none 0 0, .slice none 0 0] 25)) 9 2 2 #[.string a, .string b] rfl (Nat.le_refl _) (by decide)
  simp only [World.size_alloc] at y1 hS1
  have HK := Lib.hid (checkNames_any A ps.length c F fs.length d ps fs (.slice (some ⟨w.heap.size + 1 + 1, 0, none⟩) 2 2) [a, b] _ (h.below hb0) hs hS1)
  rw [hc] at HK
  clear h hs hc hS1 y0
  rcases hr with rfl | rfl | rfl
  all_goals
    go_enter Tryz.func40, Tryz.ntmps40
    go_wp2_with fail
    refine HK.out.mono ?_
    rintro e w1 ⟨rfl, hb1⟩
    have HB := Lib.hid (hb0.trans (hb1.mono hb0.size))
    have HR := Lib.hid (y1.below y1.lt hb1)
    have q0 := HR.out.frozen 0
    have q1 := HR.out.frozen 1
    have q2 := HR.out.cell 0 _ rfl
    have q3 := HR.out.cell 1 _ rfl
    clear hb0 hb1 y1 HK
    go_wp2
    have kk := HR.out.set2 (.slice none 0 0) (.slice none 0 0)
    have k0 := kk.cell 0 _ rfl
    have k1 := kk.cell 1 _ rfl
    have HE := Lib.hid ((HB.out.setCell (p := ⟨w.heap.size + 1, 0, none⟩) (by simp) (.slice none 0 0)).setCell (p := ⟨w.heap.size + 1, 1, none⟩) (by simp) (.slice none 0 0))
    clear kk
    first
      | exact bodyPost_ret (v := .tuple #[.agg #[.slice none 0 0, .slice none 0 0], .int .i64 3]) (by simp [results, Tryz.results40, go_sem, k0, k1]) rfl ⟨HE.out, _, _, _, _, _, _, rfl, net_nil _⟩
      | exact bodyPost_ret (v := .tuple #[.agg #[.slice none 0 0, .slice none 0 0], .int .i64 100]) (by simp [results, Tryz.results40, go_sem, k0, k1]) rfl ⟨HE.out, _, _, _, _, _, _, rfl, net_nil _⟩
      | exact bodyPost_ret (v := .tuple #[.agg #[.slice none 0 0, .slice none 0 0], .int .i64 2]) (by simp [results, Tryz.results40, go_sem, k0, k1]) rfl ⟨HE.out, _, _, _, _, _, _, rfl, net_nil _⟩
set_option maxRecDepth 100000 in
set_option maxHeartbeats 4000000 in
theorem merge_same (A : Option Addr) (c : Nat) (F : Option Addr) (d : Nat) (ps : List ByteArray) (fs : List Fa) (a b : ByteArray) (w : World) (h : NetC w A ps.length c F fs.length d ps fs) (hs : Short ps) (hc : namedF ps fs [a, b] = 0) (hab : a = b) :
    Calls Tryz.prog 40 #[.agg #[.slice A ps.length c, .slice F fs.length d], .string a, .string b] w (MergeP ([], [], 2) w) := by
  have hb0 := ((below_alloc' w (.cells #[.slice A ps.length c, .slice F fs.length d] 25)).alloc (by simp) (.cells #[.slice none 0 0, .slice none 0 0] 25)).alloc (by simp; omega) (.cells #[.string a, .string b] 9)
  have y0 := ((Cel.new w 25 #[.slice A ps.length c, .slice F fs.length d]).alloc (.cells #[.slice none 0 0, .slice none 0 0] 25)).alloc (.cells #[.string a, .string b] 9)
  have y1 := (Cel.new (w.alloc (.cells #[.slice A ps.length c, .slice F fs.length d] 25)) 25 #[.slice none 0 0, .slice none 0 0]).alloc (.cells #[.string a, .string b] 9)
  have hS1 := Sl.new (s := 1) ((w.alloc (.cells #[.slice A ps.length c, .slice F fs.length d] 25)).alloc (.cells #[.slice none 0 0, .slice none 0 0] 25)) 9 2 2 #[.string a, .string b] rfl (Nat.le_refl _) (by decide)
  simp only [World.size_alloc] at y1 hS1
  have HK := Lib.hid (checkNames_any A ps.length c F fs.length d ps fs (.slice (some ⟨w.heap.size + 1 + 1, 0, none⟩) 2 2) [a, b] _ (h.below hb0) hs hS1)
  rw [hc] at HK
  have heq : (a.toList == b.toList) = true := by rw [hab]; simp
  clear h hs hc hS1 y0 hab
  go_enter Tryz.func40, Tryz.ntmps40
  go_wp2_with fail
  refine HK.out.mono ?_
  rintro e w1 ⟨rfl, hb1⟩
  have HB := Lib.hid (hb0.trans (hb1.mono hb0.size))
  have HR := Lib.hid (y1.below y1.lt hb1)
  have q0 := HR.out.frozen 0
  have q1 := HR.out.frozen 1
  have q2 := HR.out.cell 0 _ rfl
  have q3 := HR.out.cell 1 _ rfl
  clear hb0 hb1 y1 HK
  go_wp2
  have kk := HR.out.set2 (.slice none 0 0) (.slice none 0 0)
  have k0 := kk.cell 0 _ rfl
  have k1 := kk.cell 1 _ rfl
  have HE := Lib.hid ((HB.out.setCell (p := ⟨w.heap.size + 1, 0, none⟩) (by simp) (.slice none 0 0)).setCell (p := ⟨w.heap.size + 1, 1, none⟩) (by simp) (.slice none 0 0))
  clear kk
  exact bodyPost_ret (v := .tuple #[.agg #[.slice none 0 0, .slice none 0 0], .int .i64 2]) (by simp [results, Tryz.results40, go_sem, k0, k1]) rfl ⟨HE.out, _, _, _, _, _, _, rfl, net_nil _⟩
set_option maxRecDepth 100000 in
set_option maxHeartbeats 8000000 in
theorem merge_good (A : Option Addr) (c : Nat) (F : Option Addr) (d : Nat) (ps : List ByteArray) (fs : List Fa) (a b : ByteArray) (w : World) (h : NetC w A ps.length c F fs.length d ps fs) (hs : Short ps) (hc : namedF ps fs [a, b] = 0) (hab : a ≠ b) (hp : ps.length ≤ 24) (hfew : fs.length ≤ 48) (r : List ByteArray × List Fa × Int) (hr1 : mergeF a b fs = none → r = ([], [], 101)) (hr2 : ∀ gs, mergeF a b fs = some gs → r = (mergeP b ps, gs, 0)) :
    Calls Tryz.prog 40 #[.agg #[.slice A ps.length c, .slice F fs.length d], .string a, .string b] w (MergeP r w) := by
  have hb0 := ((below_alloc' w (.cells #[.slice A ps.length c, .slice F fs.length d] 25)).alloc (by simp) (.cells #[.slice none 0 0, .slice none 0 0] 25)).alloc (by simp; omega) (.cells #[.string a, .string b] 9)
  have y0 := ((Cel.new w 25 #[.slice A ps.length c, .slice F fs.length d]).alloc (.cells #[.slice none 0 0, .slice none 0 0] 25)).alloc (.cells #[.string a, .string b] 9)
  have y1 := (Cel.new (w.alloc (.cells #[.slice A ps.length c, .slice F fs.length d] 25)) 25 #[.slice none 0 0, .slice none 0 0]).alloc (.cells #[.string a, .string b] 9)
  have hS1 := Sl.new (s := 1) ((w.alloc (.cells #[.slice A ps.length c, .slice F fs.length d] 25)).alloc (.cells #[.slice none 0 0, .slice none 0 0] 25)) 9 2 2 #[.string a, .string b] rfl (Nat.le_refl _) (by decide)
  simp only [World.size_alloc] at y1 hS1
  have HK := Lib.hid (checkNames_any A ps.length c F fs.length d ps fs (.slice (some ⟨w.heap.size + 1 + 1, 0, none⟩) 2 2) [a, b] _ (h.below hb0) hs hS1)
  rw [hc] at HK
  have heq : (a.toList == b.toList) = false := by rw [beqL]; exact decide_eq_false hab
  have HPc := Lib.hid (fun q => h.person q)
  have HFc := Lib.hid (fun q => h.fact q)
  have HP := Lib.hid hp
  have HFw := Lib.hid hfew
  have HR1r := Lib.hid hr1
  have HR2r := Lib.hid hr2
  clear h hs hc hS1 hab hr1 hr2
  go_enter Tryz.func40, Tryz.ntmps40
  go_wp2_with fail
  refine HK.out.mono ?_
  rintro e w1 ⟨rfl, hb1⟩
  have HB := Lib.hid (hb0.trans (hb1.mono hb0.size))
  have HNt := Lib.hid (y0.below y0.lt hb1)
  have HR := Lib.hid (y1.below y1.lt hb1)
  have HBl := Lib.hid (show w.heap.size + 1 < w1.heap.size from HR.out.lt)
  have HT := Lib.hid (show TwoS w (w1.alloc (.cells #[.slice none 0 0, .slice none 0 0] 25)) (w1.heap.size + 1) w1.heap.size 25 9 1 76 4 (.slice none 0 0) (.slice none 0 0) 0 0 [] [] from ⟨Cel.new w1 25 #[.slice none 0 0, .slice none 0 0], World.ownsRow_nil _ _ _ _, World.ownsRow_nil _ _ _ _, (fun g e => by cases e), by omega, HB.out.alloc HB.out.size _⟩)
  have HN1 := Lib.hid (HNt.out.alloc (.cells #[.slice none 0 0, .slice none 0 0] 25))
  have HR1 := Lib.hid (HR.out.alloc (.cells #[.slice none 0 0, .slice none 0 0] 25))
  have z0 := HN1.out.cell 0 _ rfl
  have z1 := HN1.out.cell 1 _ rfl
  clear hb0 hb1 y0 y1 HK HB HNt HR
  go_wp2
  clear z0 z1 heq
  go_loopw [30] (fun ti wr => ∃ (k : Nat) (va : Value), ti = .int .i64 k ∧ k ≤ ps.length ∧ Hid (TwoS w wr (w1.heap.size + 1) w1.heap.size 25 9 1 76 4 va (.slice none 0 0) (mergeP b (ps.take k)).length 0 (namesV (mergeP b (ps.take k))) []) ∧ Hid (Cel wr w.heap.size 25 #[.slice A ps.length c, .slice F fs.length d]) ∧ Hid (Cel wr (w.heap.size + 1) 25 #[.slice none 0 0, .slice none 0 0]) ∧ Hid (w1.heap.size + 1 ≤ wr.heap.size)) (fun ti _ => ps.length - (intOf ti).toNat)
  case atStart => exact ⟨0, _, rfl, by omega, HT.out, HN1.out, HR1.out, Lib.hid (by simp)⟩
  case round =>
    clear HT HN1 HR1
    obtain ⟨k, va, rfl, hk, HT, HN1, HR1, HSz⟩ := hrel
    by_cases hlt : k < ps.length
    · have hki : (k : Int) < (ps.length : Int) := by omega
      obtain ⟨b0, o0, rfl, _, hce⟩ := HPc.out (by omega)
      have hget : ps[k]? = some ps[k] := List.getElem?_eq_getElem hlt
      have c1 := below_cell HT.out.below (hce k _ hget)
      have HM := Lib.hid (mergeP_succ (b := b) hget)
      have HLen := Lib.hid (mergeP_len b ps k)
      clear hce hget
      generalize ps[k] = s at *
      by_cases hq : s = b
      · have HM2 := Lib.hid (HM.out.trans (by rw [if_pos hq, List.append_nil]))
        have hqe : (s.toList == b.toList) = true := by rw [hq]; simp
        clear hq HM
        go_wp2
        go_roundw
        case rel => exact ⟨k + 1, va, by go_num, by omega, by rw [HM2.out]; exact HT.out, HN1.out, HR1.out, HSz.out⟩
        case measure => simp [intOf]; omega
      · have HM2 := Lib.hid (HM.out.trans (by rw [if_neg hq]))
        have hqe : (s.toList == b.toList) = false := by rw [beqL]; exact decide_eq_false hq
        have HTa := Lib.hid (HT.out.alloc (.cells #[.string s] 9))
        have HNa := Lib.hid (HN1.out.alloc (.cells #[.string s] 9))
        have HRa := Lib.hid (HR1.out.alloc (.cells #[.string s] 9))
        have HS1 := Lib.hid (Sl.new (s := 1) wr 9 1 1 #[.string s] rfl (Nat.le_refl _) (by decide))
        obtain ⟨Aa, ca, rfl, _⟩ := own_shape HT.out.a
        have z0 := HT.out.cel.cell 0 _ rfl
        clear hq HM
        go_wp2_with (at_builtin; refine appStr _ _ rfl rfl rfl rfl HTa.out.a HS1.out (by simp [Value.oneCell']) (N := (mergeP b (ps.take k)).length + 1) (by simp) (by have := HLen.out; have := HP.out; omega) (by have := HSz.out; simp; omega) ?_; intro A1 c1 w5 hap; have cy := HTa.out.midA hap; have q0 := cy.cell 0 _ rfl; have q1 := cy.frozen 0; have HT5 := Lib.hid (HTa.out.putA (by have := HBl.out; omega) hap); have HN5 := Lib.hid (HTa.out.farA hap HNa.out (by have := HBl.out; omega) (.slice A1 ((mergeP b (ps.take k)).length + 1) c1) 0); have HR5 := Lib.hid (HTa.out.farA hap HRa.out (by have := HBl.out; omega) (.slice A1 ((mergeP b (ps.take k)).length + 1) c1) 0); have hg := hap.grown.size; have HSz5 := Lib.hid (show w1.heap.size + 1 ≤ (w5.setCell ⟨w1.heap.size, 0, none⟩ (.slice A1 ((mergeP b (ps.take k)).length + 1) c1)).heap.size by have := HSz.out; simp at hg ⊢; omega); clear hap cy hg)
        go_roundw
        case rel => exact ⟨k + 1, _, by go_num, by omega, by rw [HM2.out, namesV_append, List.length_append]; exact HT5.out, HN5.out, HR5.out, HSz5.out⟩
        case measure => simp [intOf]; omega
    · have HK := Lib.hid (show ps.take k = ps from List.take_of_length_le (by omega))
      rw [HK.out] at HT
      obtain ⟨Aa, ca, rfl, _⟩ := own_shape HT.out.a
      have z1 := HN1.out.cell 1 _ rfl
      clear HK
      go_wp2
      clear z1 hlt hk
      go_loopw [47] (fun ti wr => ∃ (j : Nat) (gs : List Fa) (vb : Value), ti = .int .i64 j ∧ j ≤ fs.length ∧ Hid (mergeF a b (fs.take j) = some gs) ∧ Hid (TwoS w wr (w1.heap.size + 1) w1.heap.size 25 9 1 76 4 (.slice Aa (mergeP b ps).length ca) vb (mergeP b ps).length gs.length (namesV (mergeP b ps)) (fasV gs)) ∧ Hid (Cel wr w.heap.size 25 #[.slice A ps.length c, .slice F fs.length d]) ∧ Hid (Cel wr (w.heap.size + 1) 25 #[.slice none 0 0, .slice none 0 0]) ∧ Hid (w1.heap.size + 1 ≤ wr.heap.size)) (fun ti _ => fs.length - (intOf ti).toNat)
      case atStart => exact ⟨0, [], _, rfl, by omega, rfl, HT.out, HN1.out, HR1.out, HSz.out⟩
      case round =>
        clear HT HN1 HR1 HSz
        obtain ⟨j, gs, vb, rfl, hj, HG, HT, HN1, HR1, HSz⟩ := hrel
        obtain ⟨Ab, cb, rfl, _⟩ := own_shape HT.out.b
        by_cases hlj : j < fs.length
        · have hji : (j : Int) < (fs.length : Int) := by omega
          obtain ⟨b0, o0, rfl, _, hce⟩ := HFc.out (by omega)
          have hfj : fs[j]? = some fs[j] := List.getElem?_eq_getElem hlj
          obtain ⟨g1, g2, g3, g4⟩ := hce j _ hfj
          replace g1 := below_cell HT.out.below g1
          replace g2 := below_cell HT.out.below g2
          replace g3 := below_cell HT.out.below g3
          replace g4 := below_cell HT.out.below g4
          have HTk := Lib.hid (show fs.take (j + 1) = fs.take j ++ [fs[j]] by rw [List.take_add_one, hfj]; rfl)
          clear hce hfj
          generalize fs[j] = f at *
          obtain ⟨k, x, y, t⟩ := f
          simp only at g1 g2 g3 g4
          have HX := Lib.hid (Cel.new wr 76 #[.int .i64 k, .string x, .string y, .int .i64 t])
          have HWx := Lib.hid (below_alloc' wr (.cells #[.int .i64 k, .string x, .string y, .int .i64 t] 76))
          have HBo := Lib.hid (both_any k x y t a b (wr.alloc (.cells #[.int .i64 k, .string x, .string y, .int .i64 t] 76)))
          have x0 := HX.out.cell 0 _ rfl
          have x1 := HX.out.cell 1 _ rfl
          have x2 := HX.out.cell 2 _ rfl
          have x3 := HX.out.cell 3 _ rfl
          have HSn := Lib.hid (show mergeF a b (fs.take (j + 1)) = _ by rw [HTk.out, mergeF_snoc, HG.out, Option.bind_some])
          go_wp2_with fail
          refine HBo.out.mono ?_
          rintro e w6 ⟨rfl, hb6⟩
          have HX6 := Lib.hid (HX.out.below HX.out.lt hb6)
          have HW6 := Lib.hid (HWx.out.trans (hb6.mono HWx.out.size))
          clear hb6 x0 x1 x2 x3 g1 g2 g3 g4 HX HWx HBo
          have x0 := HX6.out.cell 0 _ rfl
          have x1 := HX6.out.cell 1 _ rfl
          have x2 := HX6.out.cell 2 _ rfl
          have x3 := HX6.out.cell 3 _ rfl
          cases hbo : bothB a b ⟨k, x, y, t⟩ with
          | true =>
            rw [hbo] at HSn
            clear hbo
            by_cases hk1 : k = 1
            · have hke : (k == 1) = true := beq_iff_eq.2 hk1
              have HE0 := Lib.hid (show mergeF a b fs = none from mergeF_take_none (k := j + 1) (by rw [HSn.out, if_pos rfl, if_pos hk1]))
              clear hk1 HSn
              have HR6 := Lib.hid (HR1.out.below HR1.out.lt HW6.out)
              have HB6 := Lib.hid (HT.out.below.trans (HW6.out.mono HT.out.below.size))
              have q0 := HR6.out.frozen 0
              have q1 := HR6.out.frozen 1
              have q2 := HR6.out.cell 0 _ rfl
              have q3 := HR6.out.cell 1 _ rfl
              go_wp2
              rw [HR1r.out HE0.out]
              have kk := HR6.out.set2 (.slice none 0 0) (.slice none 0 0)
              have k0 := kk.cell 0 _ rfl
              have k1 := kk.cell 1 _ rfl
              have HE := Lib.hid ((HB6.out.setCell (p := ⟨w.heap.size + 1, 0, none⟩) (by simp) (.slice none 0 0)).setCell (p := ⟨w.heap.size + 1, 1, none⟩) (by simp) (.slice none 0 0))
              clear kk
              exact bodyPost_ret (v := .tuple #[.agg #[.slice none 0 0, .slice none 0 0], .int .i64 101]) (by simp [results, Tryz.results40, go_sem, k0, k1]) rfl ⟨HE.out, _, _, _, _, _, _, rfl, net_nil _⟩
            · have hke : (k == 1) = false := beq_eq_false_iff_ne.2 hk1
              have HS2 := Lib.hid (HSn.out.trans (by rw [if_pos rfl, if_neg hk1]))
              clear hk1 HSn
              go_wp2
              go_roundw
              case rel => exact ⟨j + 1, gs, _, by go_num, by omega, HS2.out, HT.out.grow HW6.out, HN1.out.below HN1.out.lt HW6.out, HR1.out.below HR1.out.lt HW6.out, Nat.le_trans HSz.out HW6.out.size⟩
              case measure => simp [intOf]; omega
          | false =>
            rw [hbo] at HSn
            clear hbo
            have HS2 := Lib.hid (HSn.out.trans (if_neg (by decide)))
            have p1 := HX6.out.frozen 1
            have p2 := HX6.out.frozen 2
            have pa := (HX6.out.setAt 1 (.string a)).cell 2 (.string y) rfl
            have pb := (HX6.out.setAt 1 (.string a)).frozen 2
            have HLt := Lib.hid HX6.out.lt
            clear HSn
            by_cases hx : x = b
            · have hxe : (x.toList == b.toList) = true := by rw [hx]; simp
              have HRx := Lib.hid (show renS a b x = a from if_pos hx)
              clear hx
              by_cases hy : y = b
              · have hye : (y.toList == b.toList) = true := by rw [hy]; simp
                have HRy := Lib.hid (show renS a b y = a from if_pos hy)
                clear hy
                go_upto_region 23 with fail
                have hX : Cel ((w6.setCell ⟨wr.heap.size, 1, none⟩ (.string a)).setCell ⟨wr.heap.size, 2, none⟩ (.string a)) wr.heap.size 76 #[.int .i64 k, .string (renS a b x), .string (renS a b y), .int .i64 t] := by
                  rw [HRx.out, HRy.out]
                  exact (HX6.out.setAt 1 (.string a)).setAt 2 (.string a)
                have hW : Below wr.heap.size wr ((w6.setCell ⟨wr.heap.size, 1, none⟩ (.string a)).setCell ⟨wr.heap.size, 2, none⟩ (.string a)) := (HW6.out.setCell (p := ⟨wr.heap.size, 1, none⟩) (by simp) _).setCell (p := ⟨wr.heap.size, 2, none⟩) (by simp) _
                clear x0 x1 x2 x3 p1 p2 pa pb
                generalize ((w6.setCell ⟨wr.heap.size, 1, none⟩ (.string a)).setCell ⟨wr.heap.size, 2, none⟩ (.string a)) = Wc at hX hW ⊢
                have HX7 := Lib.hid hX
                have HW7 := Lib.hid hW
                have HT7 := Lib.hid (HT.out.grow hW)
                have HN7 := Lib.hid (HN1.out.below HN1.out.lt hW)
                have HR7 := Lib.hid (HR1.out.below HR1.out.lt hW)
                have HSz7 := Lib.hid (Nat.le_trans HSz.out hW.size)
                have HGl := Lib.hid (show gs.length ≤ 48 by have := mergeF_length HG.out; have := HFw.out; simp at *; omega)
                clear hX hW HX6 HW6 HLt
                have x0 := HX7.out.cell 0 _ rfl
                have x1 := HX7.out.cell 1 _ rfl
                have x2 := HX7.out.cell 2 _ rfl
                have x3 := HX7.out.cell 3 _ rfl
                have z1 := HT7.out.cel.cell 1 _ rfl
                have HTa := Lib.hid (HT7.out.alloc (.cells #[.int .i64 k, .string (renS a b x), .string (renS a b y), .int .i64 t] 76))
                have HNa := Lib.hid (HN7.out.alloc (.cells #[.int .i64 k, .string (renS a b x), .string (renS a b y), .int .i64 t] 76))
                have HRa := Lib.hid (HR7.out.alloc (.cells #[.int .i64 k, .string (renS a b x), .string (renS a b y), .int .i64 t] 76))
                have HS1 := Lib.hid (Sl.new (s := 4) Wc 76 1 1 #[.int .i64 k, .string (renS a b x), .string (renS a b y), .int .i64 t] rfl (Nat.le_refl _) (by decide))
                have HRen := Lib.hid (show fasV (gs ++ [renF a b ⟨k, x, y, t⟩]) = fasV gs ++ [.int .i64 k, .string (renS a b x), .string (renS a b y), .int .i64 t] by simp [fasV, faV, renF])
                go_wp2_with (at_builtin; refine appFact _ _ rfl rfl rfl rfl HTa.out.b HS1.out (by simp [Value.oneCell']) (N := gs.length + 1) (by simp; omega) (by have := HGl.out; omega) (by have := HSz7.out; simp; omega) ?_; intro A1 c1 w8 hap; have cy := HTa.out.midB hap; have q0 := cy.cell 1 _ rfl; have q1 := cy.frozen 1; have HT8 := Lib.hid (HTa.out.putB (by have := HBl.out; omega) hap); have HN8 := Lib.hid (HTa.out.farB hap HNa.out (by have := HBl.out; omega) (.slice A1 (gs.length + 1) c1) 1); have HR8 := Lib.hid (HTa.out.farB hap HRa.out (by have := HBl.out; omega) (.slice A1 (gs.length + 1) c1) 1); have hg := hap.grown.size; have HSz8 := Lib.hid (show w1.heap.size + 1 ≤ (w8.setCell ⟨w1.heap.size, 1, none⟩ (.slice A1 (gs.length + 1) c1)).heap.size by have := HSz7.out; simp at hg ⊢; omega); clear hap cy hg)
                go_wp2
                go_roundw
                case rel => exact ⟨j + 1, gs ++ [renF a b ⟨k, x, y, t⟩], _, by go_num, by omega, HS2.out, by rw [HRen.out, List.length_append]; exact HT8.out, HN8.out, HR8.out, HSz8.out⟩
                case measure => simp [intOf]; omega
              · have hye : (y.toList == b.toList) = false := by rw [beqL]; exact decide_eq_false hy
                have HRy := Lib.hid (show renS a b y = y from if_neg hy)
                clear hy
                go_upto_region 23 with fail
                have hX : Cel (w6.setCell ⟨wr.heap.size, 1, none⟩ (.string a)) wr.heap.size 76 #[.int .i64 k, .string (renS a b x), .string (renS a b y), .int .i64 t] := by
                  rw [HRx.out, HRy.out]
                  exact HX6.out.setAt 1 (.string a)
                have hW : Below wr.heap.size wr (w6.setCell ⟨wr.heap.size, 1, none⟩ (.string a)) := HW6.out.setCell (p := ⟨wr.heap.size, 1, none⟩) (by simp) _
                clear x0 x1 x2 x3 p1 p2 pa pb
                generalize (w6.setCell ⟨wr.heap.size, 1, none⟩ (.string a)) = Wc at hX hW ⊢
                have HX7 := Lib.hid hX
                have HW7 := Lib.hid hW
                have HT7 := Lib.hid (HT.out.grow hW)
                have HN7 := Lib.hid (HN1.out.below HN1.out.lt hW)
                have HR7 := Lib.hid (HR1.out.below HR1.out.lt hW)
                have HSz7 := Lib.hid (Nat.le_trans HSz.out hW.size)
                have HGl := Lib.hid (show gs.length ≤ 48 by have := mergeF_length HG.out; have := HFw.out; simp at *; omega)
                clear hX hW HX6 HW6 HLt
                have x0 := HX7.out.cell 0 _ rfl
                have x1 := HX7.out.cell 1 _ rfl
                have x2 := HX7.out.cell 2 _ rfl
                have x3 := HX7.out.cell 3 _ rfl
                have z1 := HT7.out.cel.cell 1 _ rfl
                have HTa := Lib.hid (HT7.out.alloc (.cells #[.int .i64 k, .string (renS a b x), .string (renS a b y), .int .i64 t] 76))
                have HNa := Lib.hid (HN7.out.alloc (.cells #[.int .i64 k, .string (renS a b x), .string (renS a b y), .int .i64 t] 76))
                have HRa := Lib.hid (HR7.out.alloc (.cells #[.int .i64 k, .string (renS a b x), .string (renS a b y), .int .i64 t] 76))
                have HS1 := Lib.hid (Sl.new (s := 4) Wc 76 1 1 #[.int .i64 k, .string (renS a b x), .string (renS a b y), .int .i64 t] rfl (Nat.le_refl _) (by decide))
                have HRen := Lib.hid (show fasV (gs ++ [renF a b ⟨k, x, y, t⟩]) = fasV gs ++ [.int .i64 k, .string (renS a b x), .string (renS a b y), .int .i64 t] by simp [fasV, faV, renF])
                go_wp2_with (at_builtin; refine appFact _ _ rfl rfl rfl rfl HTa.out.b HS1.out (by simp [Value.oneCell']) (N := gs.length + 1) (by simp; omega) (by have := HGl.out; omega) (by have := HSz7.out; simp; omega) ?_; intro A1 c1 w8 hap; have cy := HTa.out.midB hap; have q0 := cy.cell 1 _ rfl; have q1 := cy.frozen 1; have HT8 := Lib.hid (HTa.out.putB (by have := HBl.out; omega) hap); have HN8 := Lib.hid (HTa.out.farB hap HNa.out (by have := HBl.out; omega) (.slice A1 (gs.length + 1) c1) 1); have HR8 := Lib.hid (HTa.out.farB hap HRa.out (by have := HBl.out; omega) (.slice A1 (gs.length + 1) c1) 1); have hg := hap.grown.size; have HSz8 := Lib.hid (show w1.heap.size + 1 ≤ (w8.setCell ⟨w1.heap.size, 1, none⟩ (.slice A1 (gs.length + 1) c1)).heap.size by have := HSz7.out; simp at hg ⊢; omega); clear hap cy hg)
                go_wp2
                go_roundw
                case rel => exact ⟨j + 1, gs ++ [renF a b ⟨k, x, y, t⟩], _, by go_num, by omega, HS2.out, by rw [HRen.out, List.length_append]; exact HT8.out, HN8.out, HR8.out, HSz8.out⟩
                case measure => simp [intOf]; omega
            · have hxe : (x.toList == b.toList) = false := by rw [beqL]; exact decide_eq_false hx
              have HRx := Lib.hid (show renS a b x = x from if_neg hx)
              clear hx
              by_cases hy : y = b
              · have hye : (y.toList == b.toList) = true := by rw [hy]; simp
                have HRy := Lib.hid (show renS a b y = a from if_pos hy)
                clear hy
                go_upto_region 23 with fail
                have hX : Cel (w6.setCell ⟨wr.heap.size, 2, none⟩ (.string a)) wr.heap.size 76 #[.int .i64 k, .string (renS a b x), .string (renS a b y), .int .i64 t] := by
                  rw [HRx.out, HRy.out]
                  exact HX6.out.setAt 2 (.string a)
                have hW : Below wr.heap.size wr (w6.setCell ⟨wr.heap.size, 2, none⟩ (.string a)) := HW6.out.setCell (p := ⟨wr.heap.size, 2, none⟩) (by simp) _
                clear x0 x1 x2 x3 p1 p2 pa pb
                generalize (w6.setCell ⟨wr.heap.size, 2, none⟩ (.string a)) = Wc at hX hW ⊢
                have HX7 := Lib.hid hX
                have HW7 := Lib.hid hW
                have HT7 := Lib.hid (HT.out.grow hW)
                have HN7 := Lib.hid (HN1.out.below HN1.out.lt hW)
                have HR7 := Lib.hid (HR1.out.below HR1.out.lt hW)
                have HSz7 := Lib.hid (Nat.le_trans HSz.out hW.size)
                have HGl := Lib.hid (show gs.length ≤ 48 by have := mergeF_length HG.out; have := HFw.out; simp at *; omega)
                clear hX hW HX6 HW6 HLt
                have x0 := HX7.out.cell 0 _ rfl
                have x1 := HX7.out.cell 1 _ rfl
                have x2 := HX7.out.cell 2 _ rfl
                have x3 := HX7.out.cell 3 _ rfl
                have z1 := HT7.out.cel.cell 1 _ rfl
                have HTa := Lib.hid (HT7.out.alloc (.cells #[.int .i64 k, .string (renS a b x), .string (renS a b y), .int .i64 t] 76))
                have HNa := Lib.hid (HN7.out.alloc (.cells #[.int .i64 k, .string (renS a b x), .string (renS a b y), .int .i64 t] 76))
                have HRa := Lib.hid (HR7.out.alloc (.cells #[.int .i64 k, .string (renS a b x), .string (renS a b y), .int .i64 t] 76))
                have HS1 := Lib.hid (Sl.new (s := 4) Wc 76 1 1 #[.int .i64 k, .string (renS a b x), .string (renS a b y), .int .i64 t] rfl (Nat.le_refl _) (by decide))
                have HRen := Lib.hid (show fasV (gs ++ [renF a b ⟨k, x, y, t⟩]) = fasV gs ++ [.int .i64 k, .string (renS a b x), .string (renS a b y), .int .i64 t] by simp [fasV, faV, renF])
                go_wp2_with (at_builtin; refine appFact _ _ rfl rfl rfl rfl HTa.out.b HS1.out (by simp [Value.oneCell']) (N := gs.length + 1) (by simp; omega) (by have := HGl.out; omega) (by have := HSz7.out; simp; omega) ?_; intro A1 c1 w8 hap; have cy := HTa.out.midB hap; have q0 := cy.cell 1 _ rfl; have q1 := cy.frozen 1; have HT8 := Lib.hid (HTa.out.putB (by have := HBl.out; omega) hap); have HN8 := Lib.hid (HTa.out.farB hap HNa.out (by have := HBl.out; omega) (.slice A1 (gs.length + 1) c1) 1); have HR8 := Lib.hid (HTa.out.farB hap HRa.out (by have := HBl.out; omega) (.slice A1 (gs.length + 1) c1) 1); have hg := hap.grown.size; have HSz8 := Lib.hid (show w1.heap.size + 1 ≤ (w8.setCell ⟨w1.heap.size, 1, none⟩ (.slice A1 (gs.length + 1) c1)).heap.size by have := HSz7.out; simp at hg ⊢; omega); clear hap cy hg)
                go_wp2
                go_roundw
                case rel => exact ⟨j + 1, gs ++ [renF a b ⟨k, x, y, t⟩], _, by go_num, by omega, HS2.out, by rw [HRen.out, List.length_append]; exact HT8.out, HN8.out, HR8.out, HSz8.out⟩
                case measure => simp [intOf]; omega
              · have hye : (y.toList == b.toList) = false := by rw [beqL]; exact decide_eq_false hy
                have HRy := Lib.hid (show renS a b y = y from if_neg hy)
                clear hy
                go_upto_region 23 with fail
                have hX : Cel w6 wr.heap.size 76 #[.int .i64 k, .string (renS a b x), .string (renS a b y), .int .i64 t] := by
                  rw [HRx.out, HRy.out]
                  exact HX6.out
                have hW : Below wr.heap.size wr w6 := HW6.out
                clear x0 x1 x2 x3 p1 p2 pa pb
                generalize w6 = Wc at hX hW ⊢
                have HX7 := Lib.hid hX
                have HW7 := Lib.hid hW
                have HT7 := Lib.hid (HT.out.grow hW)
                have HN7 := Lib.hid (HN1.out.below HN1.out.lt hW)
                have HR7 := Lib.hid (HR1.out.below HR1.out.lt hW)
                have HSz7 := Lib.hid (Nat.le_trans HSz.out hW.size)
                have HGl := Lib.hid (show gs.length ≤ 48 by have := mergeF_length HG.out; have := HFw.out; simp at *; omega)
                clear hX hW HX6 HW6 HLt
                have x0 := HX7.out.cell 0 _ rfl
                have x1 := HX7.out.cell 1 _ rfl
                have x2 := HX7.out.cell 2 _ rfl
                have x3 := HX7.out.cell 3 _ rfl
                have z1 := HT7.out.cel.cell 1 _ rfl
                have HTa := Lib.hid (HT7.out.alloc (.cells #[.int .i64 k, .string (renS a b x), .string (renS a b y), .int .i64 t] 76))
                have HNa := Lib.hid (HN7.out.alloc (.cells #[.int .i64 k, .string (renS a b x), .string (renS a b y), .int .i64 t] 76))
                have HRa := Lib.hid (HR7.out.alloc (.cells #[.int .i64 k, .string (renS a b x), .string (renS a b y), .int .i64 t] 76))
                have HS1 := Lib.hid (Sl.new (s := 4) Wc 76 1 1 #[.int .i64 k, .string (renS a b x), .string (renS a b y), .int .i64 t] rfl (Nat.le_refl _) (by decide))
                have HRen := Lib.hid (show fasV (gs ++ [renF a b ⟨k, x, y, t⟩]) = fasV gs ++ [.int .i64 k, .string (renS a b x), .string (renS a b y), .int .i64 t] by simp [fasV, faV, renF])
                go_wp2_with (at_builtin; refine appFact _ _ rfl rfl rfl rfl HTa.out.b HS1.out (by simp [Value.oneCell']) (N := gs.length + 1) (by simp; omega) (by have := HGl.out; omega) (by have := HSz7.out; simp; omega) ?_; intro A1 c1 w8 hap; have cy := HTa.out.midB hap; have q0 := cy.cell 1 _ rfl; have q1 := cy.frozen 1; have HT8 := Lib.hid (HTa.out.putB (by have := HBl.out; omega) hap); have HN8 := Lib.hid (HTa.out.farB hap HNa.out (by have := HBl.out; omega) (.slice A1 (gs.length + 1) c1) 1); have HR8 := Lib.hid (HTa.out.farB hap HRa.out (by have := HBl.out; omega) (.slice A1 (gs.length + 1) c1) 1); have hg := hap.grown.size; have HSz8 := Lib.hid (show w1.heap.size + 1 ≤ (w8.setCell ⟨w1.heap.size, 1, none⟩ (.slice A1 (gs.length + 1) c1)).heap.size by have := HSz7.out; simp at hg ⊢; omega); clear hap cy hg)
                go_wp2
                go_roundw
                case rel => exact ⟨j + 1, gs ++ [renF a b ⟨k, x, y, t⟩], _, by go_num, by omega, HS2.out, by rw [HRen.out, List.length_append]; exact HT8.out, HN8.out, HR8.out, HSz8.out⟩
                case measure => simp [intOf]; omega
        · have HK := Lib.hid (show fs.take j = fs from List.take_of_length_le (by omega))
          rw [HK.out] at HG
          have HRf := HR1
          have q0 := HR1.out.frozen 0
          have q1 := HR1.out.frozen 1
          have q2 := HR1.out.cell 0 _ rfl
          have q3 := HR1.out.cell 1 _ rfl
          have n0 := HT.out.cel.cell 0 _ rfl
          have n1 := HT.out.cel.cell 1 _ rfl
          clear HK
          go_wp2
          rw [HR2r.out gs HG.out]
          have hBl := HBl.out
          have hA := own_ne (own_ne HT.out.a (p := ⟨w.heap.size + 1, 0, none⟩) (fun e => by have := own_ge HT.out.a e; simp at this; omega) (.slice Aa (mergeP b ps).length ca)) (p := ⟨w.heap.size + 1, 1, none⟩) (fun e => by have := own_ge HT.out.a e; simp at this; omega) (.slice Ab gs.length cb)
          have hB := own_ne (own_ne HT.out.b (p := ⟨w.heap.size + 1, 0, none⟩) (fun e => by have := own_ge HT.out.b e; simp at this; omega) (.slice Aa (mergeP b ps).length ca)) (p := ⟨w.heap.size + 1, 1, none⟩) (fun e => by have := own_ge HT.out.b e; simp at this; omega) (.slice Ab gs.length cb)
          have kk := HRf.out.set2 (.slice Aa (mergeP b ps).length ca) (.slice Ab gs.length cb)
          have k0 := kk.cell 0 _ rfl
          have k1 := kk.cell 1 _ rfl
          have hS1 := Sl.of_own hA
          have hS2 := Sl.of_own hB
          exact bodyPost_ret (v := .tuple #[.agg #[.slice Aa (mergeP b ps).length ca, .slice Ab gs.length cb], .int .i64 0]) (by simp [results, Tryz.results40, go_sem, k0, k1]) rfl ⟨(HT.out.below.setCell (p := ⟨w.heap.size + 1, 0, none⟩) (by simp) _).setCell (p := ⟨w.heap.size + 1, 1, none⟩) (by simp) _, _, _, _, _, _, _, rfl, ⟨hS1, hS2⟩⟩
theorem merge_any (A : Option Addr) (n c : Nat) (F : Option Addr) (m d : Nat) (ps : List ByteArray) (fs : List Fa) (a b : ByteArray) (w : World) (h : NetC w A n c F m d ps fs) (hs : Short ps) :
    Calls Tryz.prog 40 #[.agg #[.slice A n c, .slice F m d], .string a, .string b] w (MergeP (mergeV ps fs a b) w) := by
  obtain ⟨e1, e2, _⟩ := h.many
  subst e1
  subst e2
  unfold mergeV
  rcases namedF_cases ps fs [a, b] with hr | ⟨hc, _, hp, hfew, _⟩
  · rw [if_pos (by omega)]
    exact merge_bad _ hr A c F d ps fs a b w h hs rfl
  · rw [if_neg (by omega)]
    by_cases hab : a = b
    · rw [if_pos hab]
      exact merge_same A c F d ps fs a b w h hs hc hab
    · rw [if_neg hab]
      exact merge_good A c F d ps fs a b w h hs hc hab hp hfew _ (fun q => by rw [q]) (fun gs q => by rw [q])
end Go.Proofs.YtdmcopjbckelmaaGreatDoor
