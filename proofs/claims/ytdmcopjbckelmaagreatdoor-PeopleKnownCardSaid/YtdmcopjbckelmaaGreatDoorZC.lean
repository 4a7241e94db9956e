/- The library's contracts in this text's words: slices of strings and of numbers. Conditions: those stated. Walks of the package people: at, and the bounds of each kind of facts. Conditions: those stated. Walks of the package people: bounds. Conditions: those stated. Walks of the package people: bounds, whole; add. Conditions: those stated. Walks of the package people: solve. Conditions: those stated. Walks of the package people: pair, about. Conditions: those stated. Walks of the package people: Check. Conditions: those stated. Walks of the package people: checkNames, Consistent. Conditions: those stated. -/
import Derived.Test.YtdmcopjbckelmaaGreatDoorZB
import Derived.Test.YtdmcopjbckelmaaGreatDoorSh
import Derived.Sort.OwnSorted
import Derived.OrdersHeld
import Derived.StillTailTactics
import Derived.Defers
import Derived.Recover
import Derived.Laws.Cover1
namespace Go.Proofs.YtdmcopjbckelmaaGreatDoor
section
open Go Go.RowKit Go.Shelf
attribute [local go_sem] Oper.semAt_some

theorem names_cells {w : World} {b o : Nat} {ps : List ByteArray} (hce : ∀ j u, (namesV ps)[j]? = some u → w.cell? ⟨b, o + j, none⟩ = some u) : ∀ j, j < ps.length → w.cell? ⟨b, o + j, none⟩ = some (.string (ps.getD j ByteArray.empty)) := fun j hj =>
  hce j _ (by simp [namesV, hj])
theorem contains_any (v : Value) (ps : List ByteArray) (s : ByteArray) (w : World) (h : Sl w 1 v (namesV ps)) :
    Calls Tryz.prog 98 #[v, .string s] w fun e w' => e = .returned (.bool (memB ps s)) ∧ w = w' := by
  obtain ⟨A, n, c, rfl, hl, hc, hm, hcl⟩ := h.open2 (by decide)
  have hn : n = ps.length := by rw [namesV_length] at hl; omega
  subst hn
  by_cases h0 : 0 < ps.length
  · obtain ⟨b, o, rfl, hb, hce⟩ := hcl h0
    refine (Tryz.slices_Contains_string b o ps.length c ps s w (Nat.le_refl _) (by omega) (names_cells hce)).mono ?_
    rintro e w' ⟨rfl, rfl⟩
    refine ⟨?_, rfl⟩
    rw [List.take_length]
    congr 2
    rw [Bool.eq_iff_iff, Lib.containsS_iff, memB_iff]
  · have e0 : ps = [] := List.length_eq_zero_iff.1 (by omega)
    subst e0
    refine (Tryz.slices_Contains_string_empty A c s w).mono ?_
    rintro e w' ⟨rfl, rfl⟩
    exact ⟨rfl, rfl⟩
theorem index_any (v : Value) (ps : List ByteArray) (s : ByteArray) (w : World) (h : Sl w 1 v (namesV ps)) (hs : s ∈ ps) :
    Calls Tryz.prog 121 #[v, .string s] w fun e w' => e = .returned (.int .i64 (posF ps s : Nat)) ∧ w = w' := by
  obtain ⟨A, n, c, rfl, hl, hc, hm, hcl⟩ := h.open2 (by decide)
  have hn : n = ps.length := by rw [namesV_length] at hl; omega
  subst hn
  have hp := posF_lt hs
  obtain ⟨b, o, rfl, hb, hce⟩ := hcl (by omega)
  refine (Tryz.slices_Index_string b o ps.length c ps s w (Nat.le_refl _) (by omega) (names_cells hce)).mono ?_
  rintro e w' ⟨rfl, rfl⟩
  refine ⟨?_, rfl⟩
  rw [Lib.idxOfS_hit ps ps.length (posF ps s) s hp (Nat.le_refl _) ?_ (fun j hj => ?_)]
  · rw [List.getD_eq_getElem?_getD, posF_get hs]; rfl
  · have := posF_first hj
    have hjl : j < ps.length := by omega
    rw [List.getD_eq_getElem?_getD, List.getElem?_eq_getElem hjl] at *
    intro e
    exact this (by simpa using e)
end

section
open Go Go.RowKit Go.Shelf
attribute [local go_sem] Oper.semAt_some

/-- The lives in memory, as far as their people go. -/
def PeC (w : World) (B : Nat) (ps : List ByteArray) : Prop := ∃ vs pv, Cel w B 134 vs ∧ vs[0]? = some pv ∧ Sl w 1 pv (namesV ps)
theorem PeC.below {w w' : World} {B : Nat} {ps : List ByteArray} (h : PeC w B ps) (hb : Below w.heap.size w w') : PeC w' B ps := by
  obtain ⟨vs, pv, h1, h2, h3⟩ := h
  exact ⟨vs, pv, h1.below h1.lt hb, h2, h3.below hb⟩
set_option maxRecDepth 100000 in
theorem at_any (B : Nat) (ps : List ByteArray) (s : ByteArray) (w : World) (h : PeC w B ps) (hs : s ∈ ps) (hp : ps.length ≤ 24) :
    Calls Tryz.prog 156 #[.pointer (some ⟨B, 0, none⟩), .string s] w fun e w' => e = .returned (.int .i64 (2 * (posF ps s : Int))) ∧ w = w' := by
  obtain ⟨vs, pv, hC, h0, hS⟩ := h
  have c0 := hC.cell 0 _ h0
  have hq := posF_lt hs
  have HX := Lib.hid (index_any pv ps s w hS hs)
  obtain ⟨A, n, c, rfl, _⟩ := hS.shape
  clear hC h0 hS hs
  go_enter Tryz.func156, Tryz.ntmps156
  go_wp2_with fail
  refine HX.out.mono ?_
  rintro e w' ⟨rfl, rfl⟩
  go_wp2
  go_ret
  exact ⟨rfl, rfl⟩
def faV (f : Fa) : List Value := [.int .i64 f.kind, .string f.a, .string f.b, .int .i64 f.at_]
def boV (b : Bo) : List Value := [.int .i64 b.x, .int .i64 b.y, .int .i64 b.by_]
def bosV (l : List Bo) : List Value := l.flatMap boV
/-- A slice that begins its own block, from some block on. -/
def SlB (w : World) (base s : Nat) (v : Value) (xs : List Value) : Prop := Sl w s v xs ∧ ∃ b n c, v = .slice (some ⟨b, 0, none⟩) n c ∧ base ≤ b
theorem SlB.mono {w : World} {base base' s : Nat} {v : Value} {xs : List Value} (h : SlB w base s v xs) (hb : base' ≤ base) : SlB w base' s v xs := by
  obtain ⟨h1, b, n, c, rfl, h2⟩ := h
  exact ⟨h1, b, n, c, rfl, by omega⟩
theorem SlB.kept {w w' : World} {base s B : Nat} {v : Value} {xs : List Value} (h : SlB w base s v xs) (hg : w.grownBy w' (some B)) (hB : B < base) : SlB w' base s v xs := by
  obtain ⟨⟨A, n, c, rfl, h1, h2, h3, h4⟩, b, n', c', e, hb⟩ := h
  cases e
  refine ⟨⟨_, n, c, rfl, h1, h2, h3, fun hn => ?_⟩, b, n, c, rfl, hb⟩
  obtain ⟨ad, e, h5⟩ := h4 hn
  refine ⟨ad, e, fun j u hu => ?_⟩
  cases e
  have := h5 j u hu
  refine hg.cell this ?_
  rw [block_add]
  simp
  omega
theorem SlB.below {w w' : World} {base s : Nat} {v : Value} {xs : List Value} (h : SlB w base s v xs) (hb : Below w.heap.size w w') : SlB w' base s v xs := ⟨h.1.below hb, h.2⟩
theorem sl_end {W : World} {t : TypeId} (n : Nat) {base B : Nat} {cs : Array Value} {l : List Value} (hB : B = W.heap.size) (hl : cs.toList = l) (hn : cs.size = n * 3) (hm : n ≤ 3) (hbase : base ≤ B) : SlB (W.alloc (.cells cs t)) base 3 (.slice (some ⟨B, 0, none⟩) n n) l := by
  subst hl
  subst hB
  exact ⟨Sl.new W t n n cs hn (Nat.le_refl _) (by omega), _, _, _, rfl, hbase⟩
set_option maxRecDepth 100000 in
set_option maxHeartbeats 1000000 in
theorem bornIn_any (B : Nat) (ps : List ByteArray) (k : Int) (a b : ByteArray) (t : Int) (w : World) (h : PeC w B ps) (hs : a ∈ ps) (hp : ps.length ≤ 24) (ht : -1000 ≤ t ∧ t ≤ 1000) :
    Calls Tryz.prog 128 #[.pointer (some ⟨B, 0, none⟩), .agg #[.int .i64 k, .string a, .string b, .int .i64 t]] w fun e w' => ∃ v, e = .returned v ∧ SlB w' w.heap.size 3 v (bosV [⟨2 * posF ps a, 48, t⟩, ⟨48, 2 * posF ps a, -t⟩]) ∧ Below w.heap.size w w' := by
  obtain ⟨ht1, ht2⟩ := ht
  have hq := posF_lt hs
  have HA := Lib.hid (fun w' hh => at_any B ps a w' hh hs hp)
  have HP := Lib.hid h
  clear h hs
  go_enter Tryz.func128, Tryz.ntmps128
  go_wp2_with fail
  refine (HA.out _ (HP.out.below (below_alloc' _ _))).mono ?_
  rintro e w' ⟨rfl, rfl⟩
  go_wp2
  go_ret
  refine ⟨_, rfl, sl_end 2 (by simp) rfl rfl (by decide) (by omega), (below_alloc' _ _).alloc (by simp) _⟩
set_option maxRecDepth 100000 in
set_option maxHeartbeats 1000000 in
theorem acts_any (B : Nat) (ps : List ByteArray) (k : Int) (a b : ByteArray) (t : Int) (w : World) (h : PeC w B ps) (hs : a ∈ ps) (hp : ps.length ≤ 24) (ht : -1000 ≤ t ∧ t ≤ 1000) :
    Calls Tryz.prog 129 #[.pointer (some ⟨B, 0, none⟩), .agg #[.int .i64 k, .string a, .string b, .int .i64 t]] w fun e w' => ∃ v, e = .returned v ∧ SlB w' w.heap.size 3 v (bosV [⟨2 * posF ps a, 48, t - 10⟩, ⟨48, 2 * posF ps a + 1, -t⟩]) ∧ Below w.heap.size w w' := by
  obtain ⟨ht1, ht2⟩ := ht
  have hq := posF_lt hs
  have HA := Lib.hid (fun w' hh => at_any B ps a w' hh hs hp)
  have HP := Lib.hid h
  clear h hs
  go_enter Tryz.func129, Tryz.ntmps129
  go_wp2_with fail
  refine (HA.out _ (HP.out.below (below_alloc' _ _))).mono ?_
  rintro e w' ⟨rfl, rfl⟩
  go_wp2
  go_ret
  refine ⟨_, rfl, sl_end 2 (by simp) rfl rfl (by decide) (by omega), (below_alloc' _ _).alloc (by simp) _⟩
set_option maxRecDepth 100000 in
set_option maxHeartbeats 1000000 in
theorem alive_any (B : Nat) (ps : List ByteArray) (k : Int) (a b : ByteArray) (t : Int) (w : World) (h : PeC w B ps) (hs : a ∈ ps) (hp : ps.length ≤ 24) (ht : -1000 ≤ t ∧ t ≤ 1000) :
    Calls Tryz.prog 130 #[.pointer (some ⟨B, 0, none⟩), .agg #[.int .i64 k, .string a, .string b, .int .i64 t]] w fun e w' => ∃ v, e = .returned v ∧ SlB w' w.heap.size 3 v (bosV [⟨2 * posF ps a, 48, t⟩, ⟨48, 2 * posF ps a + 1, -t⟩]) ∧ Below w.heap.size w w' := by
  obtain ⟨ht1, ht2⟩ := ht
  have hq := posF_lt hs
  have HA := Lib.hid (fun w' hh => at_any B ps a w' hh hs hp)
  have HP := Lib.hid h
  clear h hs
  go_enter Tryz.func130, Tryz.ntmps130
  go_wp2_with fail
  refine (HA.out _ (HP.out.below (below_alloc' _ _))).mono ?_
  rintro e w' ⟨rfl, rfl⟩
  go_wp2
  go_ret
  refine ⟨_, rfl, sl_end 2 (by simp) rfl rfl (by decide) (by omega), (below_alloc' _ _).alloc (by simp) _⟩
set_option maxRecDepth 100000 in
set_option maxHeartbeats 1000000 in
theorem child_any (B : Nat) (ps : List ByteArray) (k : Int) (a b : ByteArray) (t : Int) (w : World) (h : PeC w B ps) (hs : a ∈ ps) (hs2 : b ∈ ps) (hp : ps.length ≤ 24) :
    Calls Tryz.prog 125 #[.pointer (some ⟨B, 0, none⟩), .agg #[.int .i64 k, .string a, .string b, .int .i64 t]] w fun e w' => ∃ v, e = .returned v ∧ SlB w' w.heap.size 3 v (bosV [⟨2 * posF ps b, 2 * posF ps a, -12⟩, ⟨2 * posF ps a, 2 * posF ps b, 80⟩, ⟨2 * posF ps a, 2 * posF ps b + 1, 1⟩]) ∧ Below w.heap.size w w' := by
  have hq := posF_lt hs
  have hq2 := posF_lt hs2
  have HA := Lib.hid (fun w' hh => at_any B ps a w' hh hs hp)
  have HA2 := Lib.hid (fun w' hh => at_any B ps b w' hh hs2 hp)
  have HP := Lib.hid (h.below (below_alloc' w (.cells #[.int .i64 k, .string a, .string b, .int .i64 t] 76)))
  have HB := Lib.hid (below_alloc' w (.cells #[.int .i64 k, .string a, .string b, .int .i64 t] 76))
  have c1 := (Cel.new w 76 #[.int .i64 k, .string a, .string b, .int .i64 t]).cell 1 _ rfl
  have c2 := (Cel.new w 76 #[.int .i64 k, .string a, .string b, .int .i64 t]).cell 2 _ rfl
  clear h hs hs2
  go_enter Tryz.func125, Tryz.ntmps125
  go_wp2
  generalize w.alloc (.cells #[.int .i64 k, .string a, .string b, .int .i64 t] 76) = W at *
  have KA := Lib.hid (fun n => HA.out (W.drewN n) (HP.out.below (below_drewN (Below.refl _ _) n)))
  have KB := Lib.hid (fun n => HA2.out (W.drewN n) (HP.out.below (below_drewN (Below.refl _ _) n)))
  go_quiet ((first | (go_at_call_of 156 (Value.string a); exact quiet_left (KA.out _)) | (go_at_call_of 156 (Value.string b); exact quiet_left (KB.out _))))
  go_wp2
  go_ret
  refine ⟨_, rfl, sl_end 3 rfl rfl rfl (by decide) HB.out.size, (below_drewN HB.out _).alloc HB.out.size _⟩
set_option maxRecDepth 100000 in
set_option maxHeartbeats 1000000 in
theorem sibling_any (B : Nat) (ps : List ByteArray) (k : Int) (a b : ByteArray) (t : Int) (w : World) (h : PeC w B ps) (hs : a ∈ ps) (hs2 : b ∈ ps) (hp : ps.length ≤ 24) :
    Calls Tryz.prog 126 #[.pointer (some ⟨B, 0, none⟩), .agg #[.int .i64 k, .string a, .string b, .int .i64 t]] w fun e w' => ∃ v, e = .returned v ∧ SlB w' w.heap.size 3 v (bosV [⟨2 * posF ps a, 2 * posF ps b, 40⟩, ⟨2 * posF ps b, 2 * posF ps a, 40⟩]) ∧ Below w.heap.size w w' := by
  have hq := posF_lt hs
  have hq2 := posF_lt hs2
  have HA := Lib.hid (fun w' hh => at_any B ps a w' hh hs hp)
  have HA2 := Lib.hid (fun w' hh => at_any B ps b w' hh hs2 hp)
  have HP := Lib.hid (h.below (below_alloc' w (.cells #[.int .i64 k, .string a, .string b, .int .i64 t] 76)))
  have HB := Lib.hid (below_alloc' w (.cells #[.int .i64 k, .string a, .string b, .int .i64 t] 76))
  have c1 := (Cel.new w 76 #[.int .i64 k, .string a, .string b, .int .i64 t]).cell 1 _ rfl
  have c2 := (Cel.new w 76 #[.int .i64 k, .string a, .string b, .int .i64 t]).cell 2 _ rfl
  clear h hs hs2
  go_enter Tryz.func126, Tryz.ntmps126
  go_wp2
  generalize w.alloc (.cells #[.int .i64 k, .string a, .string b, .int .i64 t] 76) = W at *
  have KA := Lib.hid (fun n => HA.out (W.drewN n) (HP.out.below (below_drewN (Below.refl _ _) n)))
  have KB := Lib.hid (fun n => HA2.out (W.drewN n) (HP.out.below (below_drewN (Below.refl _ _) n)))
  go_quiet ((first | (go_at_call_of 156 (Value.string a); exact quiet_left (KA.out _)) | (go_at_call_of 156 (Value.string b); exact quiet_left (KB.out _))))
  go_wp2
  go_ret
  refine ⟨_, rfl, sl_end 2 rfl rfl rfl (by decide) HB.out.size, (below_drewN HB.out _).alloc HB.out.size _⟩
theorem still_left {P : Program} {f : FuncId} {args : Array Value} {w : World} {v : Value} (h : Calls P f args w fun e w' => e = .returned v ∧ w = w') : Calls P f args w fun e w' => e = .returned v ∧ w' = w := h.mono fun _ _ ⟨a, b⟩ => ⟨a, b.symm⟩
set_option maxRecDepth 100000 in
set_option maxHeartbeats 1000000 in
theorem elder_any (B : Nat) (ps : List ByteArray) (k : Int) (a b : ByteArray) (t : Int) (w : World) (h : PeC w B ps) (hs : a ∈ ps) (hs2 : b ∈ ps) (hp : ps.length ≤ 24) :
    Calls Tryz.prog 127 #[.pointer (some ⟨B, 0, none⟩), .agg #[.int .i64 k, .string a, .string b, .int .i64 t]] w fun e w' => ∃ v, e = .returned v ∧ SlB w' w.heap.size 3 v (bosV [⟨2 * posF ps a, 2 * posF ps b, 0⟩]) ∧ Below w.heap.size w w' := by
  have hq := posF_lt hs
  have hq2 := posF_lt hs2
  have HA := Lib.hid (fun w' hh => at_any B ps a w' hh hs hp)
  have HA2 := Lib.hid (fun w' hh => at_any B ps b w' hh hs2 hp)
  have HP := Lib.hid (h.below (below_alloc' w (.cells #[.int .i64 k, .string a, .string b, .int .i64 t] 76)))
  have HB := Lib.hid (below_alloc' w (.cells #[.int .i64 k, .string a, .string b, .int .i64 t] 76))
  have c1 := (Cel.new w 76 #[.int .i64 k, .string a, .string b, .int .i64 t]).cell 1 _ rfl
  have c2 := (Cel.new w 76 #[.int .i64 k, .string a, .string b, .int .i64 t]).cell 2 _ rfl
  clear h hs hs2
  go_enter Tryz.func127, Tryz.ntmps127
  go_wp2
  generalize w.alloc (.cells #[.int .i64 k, .string a, .string b, .int .i64 t] 76) = W at *
  refine wp_region_still_tail 9 (by kernel_rfl) (by kernel_rfl) ?_
  simp only [List.take_succ_cons, List.take_zero, List.drop_succ_cons, List.drop_zero]
  still_step
  still_step
  still_step
  still_call (still_left (HA.out _ (HP.out.below (below_drew (Below.refl _ _)))))
  still_step
  still_step
  still_step
  still_call (still_left (HA2.out _ (HP.out.below (below_drew (Below.refl _ _)))))
  still_step
  refine wpStill_nil ?_
  change wpList _ _ _ _ _ W.drew
  have HB2 := Lib.hid (below_drew HB.out)
  have hs : W.drew.heap.size = W.heap.size := rfl
  generalize W.drew = W2 at *
  go_wp2
  go_ret
  refine ⟨_, rfl, sl_end 1 hs.symm rfl rfl (by decide) (hs ▸ HB2.out.size), HB2.out.alloc HB2.out.size _⟩
set_option maxRecDepth 100000 in
set_option maxHeartbeats 1000000 in
theorem dead_any (B : Nat) (ps : List ByteArray) (k : Int) (a b : ByteArray) (t : Int) (w : World) (h : PeC w B ps) (hs : a ∈ ps) (hp : ps.length ≤ 24) (ht : -1000 ≤ t ∧ t ≤ 1000) :
    Calls Tryz.prog 131 #[.pointer (some ⟨B, 0, none⟩), .agg #[.int .i64 k, .string a, .string b, .int .i64 t]] w fun e w' => ∃ v, e = .returned v ∧ SlB w' w.heap.size 3 v (bosV [⟨2 * posF ps a + 1, 48, t⟩]) ∧ Below w.heap.size w w' := by
  obtain ⟨ht1, ht2⟩ := ht
  have hq := posF_lt hs
  have HA := Lib.hid (fun w' hh => at_any B ps a w' hh hs hp)
  have HP := Lib.hid (h.below (below_alloc' w (.cells #[.int .i64 k, .string a, .string b, .int .i64 t] 76)))
  have HB := Lib.hid (below_alloc' w (.cells #[.int .i64 k, .string a, .string b, .int .i64 t] 76))
  have c1 := (Cel.new w 76 #[.int .i64 k, .string a, .string b, .int .i64 t]).cell 1 _ rfl
  have c3 := (Cel.new w 76 #[.int .i64 k, .string a, .string b, .int .i64 t]).cell 3 _ rfl
  have w1 : IntKind.i64.wrap (2 * (posF ps a : Int) + 1) = 2 * (posF ps a : Int) + 1 := IntWalk.i64_in _ (by omega)
  clear h hs
  go_enter Tryz.func131, Tryz.ntmps131
  go_wp2
  generalize w.alloc (.cells #[.int .i64 k, .string a, .string b, .int .i64 t] 76) = W at *
  refine wp_region_still_tail 8 (by kernel_rfl) (by kernel_rfl) ?_
  simp only [List.take_succ_cons, List.take_zero, List.drop_succ_cons, List.drop_zero]
  still_step
  still_step
  still_step
  still_call (still_left (HA.out _ (HP.out.below (below_drew (Below.refl _ _)))))
  still_step
  still_step
  still_step
  still_step
  refine wpStill_nil ?_
  change wpList _ _ _ _ _ W.drew
  have HB2 := Lib.hid (below_drew HB.out)
  have hs : W.drew.heap.size = W.heap.size := rfl
  generalize W.drew = W2 at *
  go_wp2
  go_ret
  refine ⟨_, rfl, sl_end 1 hs.symm rfl rfl (by decide) (hs ▸ HB2.out.size), HB2.out.alloc HB2.out.size _⟩
end

section
open Go Go.RowKit Go.Shelf
attribute [local go_sem] Oper.semAt_some

set_option maxRecDepth 100000 in
set_option maxHeartbeats 1000000 in
theorem bounds1 (B : Nat) (ps : List ByteArray) (a b : ByteArray) (t : Int) (w : World) (h : PeC w B ps) (hs : a ∈ ps) (hs2 : b ∈ ps) (hp : ps.length ≤ 24) :
    Calls Tryz.prog 103 #[.pointer (some ⟨B, 0, none⟩), .agg #[.int .i64 1, .string a, .string b, .int .i64 t]] w fun e w' => ∃ v, e = .returned v ∧ SlB w' w.heap.size 3 v (bosV [⟨2 * posF ps b, 2 * posF ps a, -12⟩, ⟨2 * posF ps a, 2 * posF ps b, 80⟩, ⟨2 * posF ps a, 2 * posF ps b + 1, 1⟩]) ∧ Below w.heap.size w w' := by
  have HA := Lib.hid (fun w' hh => child_any B ps 1 a b t w' hh hs hs2 hp)
  clear hs
  have Y1 := Cel.new w 76 #[.int .i64 1, .string a, .string b, .int .i64 t]
  go_enter Tryz.func103, Tryz.ntmps103
  go_wp2
  have HP := Lib.hid h
  have hB0 := below_alloc' w (.cells #[.int .i64 1, .string a, .string b, .int .i64 t] 76)
  have Y2 := Cel.new (w.alloc (.cells #[.int .i64 1, .string a, .string b, .int .i64 t] 76)) 167 #[.func (.func 125) #[] #[], .func (.func 126) #[] #[], .func (.func 127) #[] #[], .func (.func 128) #[] #[], .func (.func 129) #[] #[], .func (.func 130) #[] #[], .func (.func 131) #[] #[]]
  rw [World.size_alloc] at Y2
  replace Y1 := Y1.alloc (.cells #[.func (.func 125) #[] #[], .func (.func 126) #[] #[], .func (.func 127) #[] #[], .func (.func 128) #[] #[], .func (.func 129) #[] #[], .func (.func 130) #[] #[], .func (.func 131) #[] #[]] 167)
  replace hB0 := hB0.alloc hB0.size (.cells #[.func (.func 125) #[] #[], .func (.func 126) #[] #[], .func (.func 127) #[] #[], .func (.func 128) #[] #[], .func (.func 129) #[] #[], .func (.func 130) #[] #[], .func (.func 131) #[] #[]] 167)
  clear h
  generalize (w.alloc (.cells #[.int .i64 1, .string a, .string b, .int .i64 t] 76)).alloc (.cells #[.func (.func 125) #[] #[], .func (.func 126) #[] #[], .func (.func 127) #[] #[], .func (.func 128) #[] #[], .func (.func 129) #[] #[], .func (.func 130) #[] #[], .func (.func 131) #[] #[]] 167) = W at *
  have f0 := Y1.cell 0 _ rfl
  have f1 := Y1.cell 1 _ rfl
  have f2 := Y1.cell 2 _ rfl
  have f3 := Y1.cell 3 _ rfl
  have g0 := Y2.cell 0 _ rfl
  have wk : IntKind.i64.wrap 0 = 0 := by decide
  go_still_tail 8, (by kernel_rfl)
  clear wk
  change wpList _ _ _ _ _ W.drew
  have HB := Lib.hid (show Below w.heap.size w W.drew from below_drew hB0)
  clear hB0 Y1 Y2 f0 f1 f2 f3 g0
  generalize W.drew = W2 at *
  go_wp2_with (go_at_call 125; refine (HA.out _ (HP.out.below HB.out)).mono ?_; rintro e w' ⟨v, rfl, hl, hb⟩)
  have HL := Lib.hid (hl.mono HB.out.size)
  have HB2 := Lib.hid (HB.out.trans (hb.mono HB.out.size))
  clear hl hb
  go_wp2
  go_ret
  exact ⟨v, rfl, HL.out, HB2.out⟩
set_option maxRecDepth 100000 in
set_option maxHeartbeats 1000000 in
theorem bounds2 (B : Nat) (ps : List ByteArray) (a b : ByteArray) (t : Int) (w : World) (h : PeC w B ps) (hs : a ∈ ps) (hs2 : b ∈ ps) (hp : ps.length ≤ 24) :
    Calls Tryz.prog 103 #[.pointer (some ⟨B, 0, none⟩), .agg #[.int .i64 2, .string a, .string b, .int .i64 t]] w fun e w' => ∃ v, e = .returned v ∧ SlB w' w.heap.size 3 v (bosV [⟨2 * posF ps a, 2 * posF ps b, 40⟩, ⟨2 * posF ps b, 2 * posF ps a, 40⟩]) ∧ Below w.heap.size w w' := by
  have HA := Lib.hid (fun w' hh => sibling_any B ps 2 a b t w' hh hs hs2 hp)
  clear hs
  have Y1 := Cel.new w 76 #[.int .i64 2, .string a, .string b, .int .i64 t]
  go_enter Tryz.func103, Tryz.ntmps103
  go_wp2
  have HP := Lib.hid h
  have hB0 := below_alloc' w (.cells #[.int .i64 2, .string a, .string b, .int .i64 t] 76)
  have Y2 := Cel.new (w.alloc (.cells #[.int .i64 2, .string a, .string b, .int .i64 t] 76)) 167 #[.func (.func 125) #[] #[], .func (.func 126) #[] #[], .func (.func 127) #[] #[], .func (.func 128) #[] #[], .func (.func 129) #[] #[], .func (.func 130) #[] #[], .func (.func 131) #[] #[]]
  rw [World.size_alloc] at Y2
  replace Y1 := Y1.alloc (.cells #[.func (.func 125) #[] #[], .func (.func 126) #[] #[], .func (.func 127) #[] #[], .func (.func 128) #[] #[], .func (.func 129) #[] #[], .func (.func 130) #[] #[], .func (.func 131) #[] #[]] 167)
  replace hB0 := hB0.alloc hB0.size (.cells #[.func (.func 125) #[] #[], .func (.func 126) #[] #[], .func (.func 127) #[] #[], .func (.func 128) #[] #[], .func (.func 129) #[] #[], .func (.func 130) #[] #[], .func (.func 131) #[] #[]] 167)
  clear h
  generalize (w.alloc (.cells #[.int .i64 2, .string a, .string b, .int .i64 t] 76)).alloc (.cells #[.func (.func 125) #[] #[], .func (.func 126) #[] #[], .func (.func 127) #[] #[], .func (.func 128) #[] #[], .func (.func 129) #[] #[], .func (.func 130) #[] #[], .func (.func 131) #[] #[]] 167) = W at *
  have f0 := Y1.cell 0 _ rfl
  have f1 := Y1.cell 1 _ rfl
  have f2 := Y1.cell 2 _ rfl
  have f3 := Y1.cell 3 _ rfl
  have g0 := Y2.cell 1 _ rfl
  have wk : IntKind.i64.wrap 1 = 1 := by decide
  go_still_tail 8, (by kernel_rfl)
  clear wk
  change wpList _ _ _ _ _ W.drew
  have HB := Lib.hid (show Below w.heap.size w W.drew from below_drew hB0)
  clear hB0 Y1 Y2 f0 f1 f2 f3 g0
  generalize W.drew = W2 at *
  go_wp2_with (go_at_call 126; refine (HA.out _ (HP.out.below HB.out)).mono ?_; rintro e w' ⟨v, rfl, hl, hb⟩)
  have HL := Lib.hid (hl.mono HB.out.size)
  have HB2 := Lib.hid (HB.out.trans (hb.mono HB.out.size))
  clear hl hb
  go_wp2
  go_ret
  exact ⟨v, rfl, HL.out, HB2.out⟩
set_option maxRecDepth 100000 in
set_option maxHeartbeats 1000000 in
theorem bounds3 (B : Nat) (ps : List ByteArray) (a b : ByteArray) (t : Int) (w : World) (h : PeC w B ps) (hs : a ∈ ps) (hs2 : b ∈ ps) (hp : ps.length ≤ 24) :
    Calls Tryz.prog 103 #[.pointer (some ⟨B, 0, none⟩), .agg #[.int .i64 3, .string a, .string b, .int .i64 t]] w fun e w' => ∃ v, e = .returned v ∧ SlB w' w.heap.size 3 v (bosV [⟨2 * posF ps a, 2 * posF ps b, 0⟩]) ∧ Below w.heap.size w w' := by
  have HA := Lib.hid (fun w' hh => elder_any B ps 3 a b t w' hh hs hs2 hp)
  clear hs
  have Y1 := Cel.new w 76 #[.int .i64 3, .string a, .string b, .int .i64 t]
  go_enter Tryz.func103, Tryz.ntmps103
  go_wp2
  have HP := Lib.hid h
  have hB0 := below_alloc' w (.cells #[.int .i64 3, .string a, .string b, .int .i64 t] 76)
  have Y2 := Cel.new (w.alloc (.cells #[.int .i64 3, .string a, .string b, .int .i64 t] 76)) 167 #[.func (.func 125) #[] #[], .func (.func 126) #[] #[], .func (.func 127) #[] #[], .func (.func 128) #[] #[], .func (.func 129) #[] #[], .func (.func 130) #[] #[], .func (.func 131) #[] #[]]
  rw [World.size_alloc] at Y2
  replace Y1 := Y1.alloc (.cells #[.func (.func 125) #[] #[], .func (.func 126) #[] #[], .func (.func 127) #[] #[], .func (.func 128) #[] #[], .func (.func 129) #[] #[], .func (.func 130) #[] #[], .func (.func 131) #[] #[]] 167)
  replace hB0 := hB0.alloc hB0.size (.cells #[.func (.func 125) #[] #[], .func (.func 126) #[] #[], .func (.func 127) #[] #[], .func (.func 128) #[] #[], .func (.func 129) #[] #[], .func (.func 130) #[] #[], .func (.func 131) #[] #[]] 167)
  clear h
  generalize (w.alloc (.cells #[.int .i64 3, .string a, .string b, .int .i64 t] 76)).alloc (.cells #[.func (.func 125) #[] #[], .func (.func 126) #[] #[], .func (.func 127) #[] #[], .func (.func 128) #[] #[], .func (.func 129) #[] #[], .func (.func 130) #[] #[], .func (.func 131) #[] #[]] 167) = W at *
  have f0 := Y1.cell 0 _ rfl
  have f1 := Y1.cell 1 _ rfl
  have f2 := Y1.cell 2 _ rfl
  have f3 := Y1.cell 3 _ rfl
  have g0 := Y2.cell 2 _ rfl
  have wk : IntKind.i64.wrap 2 = 2 := by decide
  go_still_tail 8, (by kernel_rfl)
  clear wk
  change wpList _ _ _ _ _ W.drew
  have HB := Lib.hid (show Below w.heap.size w W.drew from below_drew hB0)
  clear hB0 Y1 Y2 f0 f1 f2 f3 g0
  generalize W.drew = W2 at *
  go_wp2_with (go_at_call 127; refine (HA.out _ (HP.out.below HB.out)).mono ?_; rintro e w' ⟨v, rfl, hl, hb⟩)
  have HL := Lib.hid (hl.mono HB.out.size)
  have HB2 := Lib.hid (HB.out.trans (hb.mono HB.out.size))
  clear hl hb
  go_wp2
  go_ret
  exact ⟨v, rfl, HL.out, HB2.out⟩
set_option maxRecDepth 100000 in
set_option maxHeartbeats 1000000 in
theorem bounds4 (B : Nat) (ps : List ByteArray) (a b : ByteArray) (t : Int) (w : World) (h : PeC w B ps) (hs : a ∈ ps) (ht : -1000 ≤ t ∧ t ≤ 1000) (hp : ps.length ≤ 24) :
    Calls Tryz.prog 103 #[.pointer (some ⟨B, 0, none⟩), .agg #[.int .i64 4, .string a, .string b, .int .i64 t]] w fun e w' => ∃ v, e = .returned v ∧ SlB w' w.heap.size 3 v (bosV [⟨2 * posF ps a, 48, t⟩, ⟨48, 2 * posF ps a, -t⟩]) ∧ Below w.heap.size w w' := by
  have HA := Lib.hid (fun w' hh => bornIn_any B ps 4 a b t w' hh hs hp ht)
  clear hs
  have Y1 := Cel.new w 76 #[.int .i64 4, .string a, .string b, .int .i64 t]
  go_enter Tryz.func103, Tryz.ntmps103
  go_wp2
  have HP := Lib.hid h
  have hB0 := below_alloc' w (.cells #[.int .i64 4, .string a, .string b, .int .i64 t] 76)
  have Y2 := Cel.new (w.alloc (.cells #[.int .i64 4, .string a, .string b, .int .i64 t] 76)) 167 #[.func (.func 125) #[] #[], .func (.func 126) #[] #[], .func (.func 127) #[] #[], .func (.func 128) #[] #[], .func (.func 129) #[] #[], .func (.func 130) #[] #[], .func (.func 131) #[] #[]]
  rw [World.size_alloc] at Y2
  replace Y1 := Y1.alloc (.cells #[.func (.func 125) #[] #[], .func (.func 126) #[] #[], .func (.func 127) #[] #[], .func (.func 128) #[] #[], .func (.func 129) #[] #[], .func (.func 130) #[] #[], .func (.func 131) #[] #[]] 167)
  replace hB0 := hB0.alloc hB0.size (.cells #[.func (.func 125) #[] #[], .func (.func 126) #[] #[], .func (.func 127) #[] #[], .func (.func 128) #[] #[], .func (.func 129) #[] #[], .func (.func 130) #[] #[], .func (.func 131) #[] #[]] 167)
  clear h
  generalize (w.alloc (.cells #[.int .i64 4, .string a, .string b, .int .i64 t] 76)).alloc (.cells #[.func (.func 125) #[] #[], .func (.func 126) #[] #[], .func (.func 127) #[] #[], .func (.func 128) #[] #[], .func (.func 129) #[] #[], .func (.func 130) #[] #[], .func (.func 131) #[] #[]] 167) = W at *
  have f0 := Y1.cell 0 _ rfl
  have f1 := Y1.cell 1 _ rfl
  have f2 := Y1.cell 2 _ rfl
  have f3 := Y1.cell 3 _ rfl
  have g0 := Y2.cell 3 _ rfl
  have wk : IntKind.i64.wrap 3 = 3 := by decide
  go_still_tail 8, (by kernel_rfl)
  clear wk
  change wpList _ _ _ _ _ W.drew
  have HB := Lib.hid (show Below w.heap.size w W.drew from below_drew hB0)
  clear hB0 Y1 Y2 f0 f1 f2 f3 g0
  generalize W.drew = W2 at *
  go_wp2_with (go_at_call 128; refine (HA.out _ (HP.out.below HB.out)).mono ?_; rintro e w' ⟨v, rfl, hl, hb⟩)
  have HL := Lib.hid (hl.mono HB.out.size)
  have HB2 := Lib.hid (HB.out.trans (hb.mono HB.out.size))
  clear hl hb
  go_wp2
  go_ret
  exact ⟨v, rfl, HL.out, HB2.out⟩
set_option maxRecDepth 100000 in
set_option maxHeartbeats 1000000 in
theorem bounds5 (B : Nat) (ps : List ByteArray) (a b : ByteArray) (t : Int) (w : World) (h : PeC w B ps) (hs : a ∈ ps) (ht : -1000 ≤ t ∧ t ≤ 1000) (hp : ps.length ≤ 24) :
    Calls Tryz.prog 103 #[.pointer (some ⟨B, 0, none⟩), .agg #[.int .i64 5, .string a, .string b, .int .i64 t]] w fun e w' => ∃ v, e = .returned v ∧ SlB w' w.heap.size 3 v (bosV [⟨2 * posF ps a, 48, t - 10⟩, ⟨48, 2 * posF ps a + 1, -t⟩]) ∧ Below w.heap.size w w' := by
  have HA := Lib.hid (fun w' hh => acts_any B ps 5 a b t w' hh hs hp ht)
  clear hs
  have Y1 := Cel.new w 76 #[.int .i64 5, .string a, .string b, .int .i64 t]
  go_enter Tryz.func103, Tryz.ntmps103
  go_wp2
  have HP := Lib.hid h
  have hB0 := below_alloc' w (.cells #[.int .i64 5, .string a, .string b, .int .i64 t] 76)
  have Y2 := Cel.new (w.alloc (.cells #[.int .i64 5, .string a, .string b, .int .i64 t] 76)) 167 #[.func (.func 125) #[] #[], .func (.func 126) #[] #[], .func (.func 127) #[] #[], .func (.func 128) #[] #[], .func (.func 129) #[] #[], .func (.func 130) #[] #[], .func (.func 131) #[] #[]]
  rw [World.size_alloc] at Y2
  replace Y1 := Y1.alloc (.cells #[.func (.func 125) #[] #[], .func (.func 126) #[] #[], .func (.func 127) #[] #[], .func (.func 128) #[] #[], .func (.func 129) #[] #[], .func (.func 130) #[] #[], .func (.func 131) #[] #[]] 167)
  replace hB0 := hB0.alloc hB0.size (.cells #[.func (.func 125) #[] #[], .func (.func 126) #[] #[], .func (.func 127) #[] #[], .func (.func 128) #[] #[], .func (.func 129) #[] #[], .func (.func 130) #[] #[], .func (.func 131) #[] #[]] 167)
  clear h
  generalize (w.alloc (.cells #[.int .i64 5, .string a, .string b, .int .i64 t] 76)).alloc (.cells #[.func (.func 125) #[] #[], .func (.func 126) #[] #[], .func (.func 127) #[] #[], .func (.func 128) #[] #[], .func (.func 129) #[] #[], .func (.func 130) #[] #[], .func (.func 131) #[] #[]] 167) = W at *
  have f0 := Y1.cell 0 _ rfl
  have f1 := Y1.cell 1 _ rfl
  have f2 := Y1.cell 2 _ rfl
  have f3 := Y1.cell 3 _ rfl
  have g0 := Y2.cell 4 _ rfl
  have wk : IntKind.i64.wrap 4 = 4 := by decide
  go_still_tail 8, (by kernel_rfl)
  clear wk
  change wpList _ _ _ _ _ W.drew
  have HB := Lib.hid (show Below w.heap.size w W.drew from below_drew hB0)
  clear hB0 Y1 Y2 f0 f1 f2 f3 g0
  generalize W.drew = W2 at *
  go_wp2_with (go_at_call 129; refine (HA.out _ (HP.out.below HB.out)).mono ?_; rintro e w' ⟨v, rfl, hl, hb⟩)
  have HL := Lib.hid (hl.mono HB.out.size)
  have HB2 := Lib.hid (HB.out.trans (hb.mono HB.out.size))
  clear hl hb
  go_wp2
  go_ret
  exact ⟨v, rfl, HL.out, HB2.out⟩
set_option maxRecDepth 100000 in
set_option maxHeartbeats 1000000 in
theorem bounds6 (B : Nat) (ps : List ByteArray) (a b : ByteArray) (t : Int) (w : World) (h : PeC w B ps) (hs : a ∈ ps) (ht : -1000 ≤ t ∧ t ≤ 1000) (hp : ps.length ≤ 24) :
    Calls Tryz.prog 103 #[.pointer (some ⟨B, 0, none⟩), .agg #[.int .i64 6, .string a, .string b, .int .i64 t]] w fun e w' => ∃ v, e = .returned v ∧ SlB w' w.heap.size 3 v (bosV [⟨2 * posF ps a, 48, t⟩, ⟨48, 2 * posF ps a + 1, -t⟩]) ∧ Below w.heap.size w w' := by
  have HA := Lib.hid (fun w' hh => alive_any B ps 6 a b t w' hh hs hp ht)
  clear hs
  have Y1 := Cel.new w 76 #[.int .i64 6, .string a, .string b, .int .i64 t]
  go_enter Tryz.func103, Tryz.ntmps103
  go_wp2
  have HP := Lib.hid h
  have hB0 := below_alloc' w (.cells #[.int .i64 6, .string a, .string b, .int .i64 t] 76)
  have Y2 := Cel.new (w.alloc (.cells #[.int .i64 6, .string a, .string b, .int .i64 t] 76)) 167 #[.func (.func 125) #[] #[], .func (.func 126) #[] #[], .func (.func 127) #[] #[], .func (.func 128) #[] #[], .func (.func 129) #[] #[], .func (.func 130) #[] #[], .func (.func 131) #[] #[]]
  rw [World.size_alloc] at Y2
  replace Y1 := Y1.alloc (.cells #[.func (.func 125) #[] #[], .func (.func 126) #[] #[], .func (.func 127) #[] #[], .func (.func 128) #[] #[], .func (.func 129) #[] #[], .func (.func 130) #[] #[], .func (.func 131) #[] #[]] 167)
  replace hB0 := hB0.alloc hB0.size (.cells #[.func (.func 125) #[] #[], .func (.func 126) #[] #[], .func (.func 127) #[] #[], .func (.func 128) #[] #[], .func (.func 129) #[] #[], .func (.func 130) #[] #[], .func (.func 131) #[] #[]] 167)
  clear h
  generalize (w.alloc (.cells #[.int .i64 6, .string a, .string b, .int .i64 t] 76)).alloc (.cells #[.func (.func 125) #[] #[], .func (.func 126) #[] #[], .func (.func 127) #[] #[], .func (.func 128) #[] #[], .func (.func 129) #[] #[], .func (.func 130) #[] #[], .func (.func 131) #[] #[]] 167) = W at *
  have f0 := Y1.cell 0 _ rfl
  have f1 := Y1.cell 1 _ rfl
  have f2 := Y1.cell 2 _ rfl
  have f3 := Y1.cell 3 _ rfl
  have g0 := Y2.cell 5 _ rfl
  have wk : IntKind.i64.wrap 5 = 5 := by decide
  go_still_tail 8, (by kernel_rfl)
  clear wk
  change wpList _ _ _ _ _ W.drew
  have HB := Lib.hid (show Below w.heap.size w W.drew from below_drew hB0)
  clear hB0 Y1 Y2 f0 f1 f2 f3 g0
  generalize W.drew = W2 at *
  go_wp2_with (go_at_call 130; refine (HA.out _ (HP.out.below HB.out)).mono ?_; rintro e w' ⟨v, rfl, hl, hb⟩)
  have HL := Lib.hid (hl.mono HB.out.size)
  have HB2 := Lib.hid (HB.out.trans (hb.mono HB.out.size))
  clear hl hb
  go_wp2
  go_ret
  exact ⟨v, rfl, HL.out, HB2.out⟩
set_option maxRecDepth 100000 in
set_option maxHeartbeats 1000000 in
theorem bounds7 (B : Nat) (ps : List ByteArray) (a b : ByteArray) (t : Int) (w : World) (h : PeC w B ps) (hs : a ∈ ps) (ht : -1000 ≤ t ∧ t ≤ 1000) (hp : ps.length ≤ 24) :
    Calls Tryz.prog 103 #[.pointer (some ⟨B, 0, none⟩), .agg #[.int .i64 7, .string a, .string b, .int .i64 t]] w fun e w' => ∃ v, e = .returned v ∧ SlB w' w.heap.size 3 v (bosV [⟨2 * posF ps a + 1, 48, t⟩]) ∧ Below w.heap.size w w' := by
  have HA := Lib.hid (fun w' hh => dead_any B ps 7 a b t w' hh hs hp ht)
  clear hs
  have Y1 := Cel.new w 76 #[.int .i64 7, .string a, .string b, .int .i64 t]
  go_enter Tryz.func103, Tryz.ntmps103
  go_wp2
  have HP := Lib.hid h
  have hB0 := below_alloc' w (.cells #[.int .i64 7, .string a, .string b, .int .i64 t] 76)
  have Y2 := Cel.new (w.alloc (.cells #[.int .i64 7, .string a, .string b, .int .i64 t] 76)) 167 #[.func (.func 125) #[] #[], .func (.func 126) #[] #[], .func (.func 127) #[] #[], .func (.func 128) #[] #[], .func (.func 129) #[] #[], .func (.func 130) #[] #[], .func (.func 131) #[] #[]]
  rw [World.size_alloc] at Y2
  replace Y1 := Y1.alloc (.cells #[.func (.func 125) #[] #[], .func (.func 126) #[] #[], .func (.func 127) #[] #[], .func (.func 128) #[] #[], .func (.func 129) #[] #[], .func (.func 130) #[] #[], .func (.func 131) #[] #[]] 167)
  replace hB0 := hB0.alloc hB0.size (.cells #[.func (.func 125) #[] #[], .func (.func 126) #[] #[], .func (.func 127) #[] #[], .func (.func 128) #[] #[], .func (.func 129) #[] #[], .func (.func 130) #[] #[], .func (.func 131) #[] #[]] 167)
  clear h
  generalize (w.alloc (.cells #[.int .i64 7, .string a, .string b, .int .i64 t] 76)).alloc (.cells #[.func (.func 125) #[] #[], .func (.func 126) #[] #[], .func (.func 127) #[] #[], .func (.func 128) #[] #[], .func (.func 129) #[] #[], .func (.func 130) #[] #[], .func (.func 131) #[] #[]] 167) = W at *
  have f0 := Y1.cell 0 _ rfl
  have f1 := Y1.cell 1 _ rfl
  have f2 := Y1.cell 2 _ rfl
  have f3 := Y1.cell 3 _ rfl
  have g0 := Y2.cell 6 _ rfl
  have wk : IntKind.i64.wrap 6 = 6 := by decide
  go_still_tail 8, (by kernel_rfl)
  clear wk
  change wpList _ _ _ _ _ W.drew
  have HB := Lib.hid (show Below w.heap.size w W.drew from below_drew hB0)
  clear hB0 Y1 Y2 f0 f1 f2 f3 g0
  generalize W.drew = W2 at *
  go_wp2_with (go_at_call 131; refine (HA.out _ (HP.out.below HB.out)).mono ?_; rintro e w' ⟨v, rfl, hl, hb⟩)
  have HL := Lib.hid (hl.mono HB.out.size)
  have HB2 := Lib.hid (HB.out.trans (hb.mono HB.out.size))
  clear hl hb
  go_wp2
  go_ret
  exact ⟨v, rfl, HL.out, HB2.out⟩
end

section
open Go Go.RowKit Go.Shelf
attribute [local go_sem] Oper.semAt_some

def faA (f : Fa) : Value := .agg #[.int .i64 f.kind, .string f.a, .string f.b, .int .i64 f.at_]
theorem bounds_any (B : Nat) (ps : List ByteArray) (f : Fa) (w : World) (h : PeC w B ps) (hp : ps.length ≤ 24) (hf : aboutB ps f = true) :
    Calls Tryz.prog 103 #[.pointer (some ⟨B, 0, none⟩), faA f] w fun e w' => ∃ v, e = .returned v ∧ SlB w' w.heap.size 3 v (bosV (boundsF ps f)) ∧ Below w.heap.size w w' := by
  obtain ⟨⟨h1, h2⟩, h3, h4, h5⟩ := aboutB_iff.1 hf
  obtain ⟨k, a, b, t⟩ := f
  simp only at *
  rcases (show k = 1 ∨ k = 2 ∨ k = 3 ∨ k = 4 ∨ k = 5 ∨ k = 6 ∨ k = 7 by omega) with rfl | rfl | rfl | rfl | rfl | rfl | rfl
  · exact bounds1 B ps a b t w h h3 (h4 (by omega)).2.1 hp
  · exact bounds2 B ps a b t w h h3 (h4 (by omega)).2.1 hp
  · exact bounds3 B ps a b t w h h3 (h4 (by omega)).2.1 hp
  · exact bounds4 B ps a b t w h h3 (h5 (by omega)).2 hp
  · exact bounds5 B ps a b t w h h3 (h5 (by omega)).2 hp
  · exact bounds6 B ps a b t w h h3 (h5 (by omega)).2 hp
  · exact bounds7 B ps a b t w h h3 (h5 (by omega)).2 hp
/-- The deferred closure of add: a frame that panics. -/
theorem catch_panicking (p : Addr) (x : Bool) (u : TypeId) (pv : Value) (older : List PanicEntry) (w : World) (hc : w.cell? p = some (.bool x)) (hz : w.frozen? p = false) :
    CallsD Tryz.prog 123 #[.pointer (some p)] (.panicking ({ v := .iface u pv, recovered := false } :: older)) w fun e u' w' =>
      e = .returned (.tuple #[]) ∧ u' = .panicking ({ v := .iface u pv, recovered := true } :: older) ∧ w' = w.setCell p (.bool false) := by
  refine callsD_of_wpS Tryz.func123 rfl fun c₀ cs hu => ?_
  apply wpS_seq
  apply wpS_region
  simp [wpOpsS, go_sem, recoverD, hu, Tryz.ntmps123, Exit.thenS]
  apply wpS_seq
  apply wpS_region
  simp [wpOpsS, go_sem, recoverD, Exit.thenS]
  refine wpS_cond (t := true) (by simp [Act.eval]) ?_
  simp only [if_true]
  apply wpS_region
  simp [wpOpsS, go_sem, hc, hz, bodyPostS, results, Tryz.results123]
theorem catch_idle (p : Addr) (w : World) :
    CallsD Tryz.prog 123 #[.pointer (some p)] .returning w fun e u' w' => e = .returned (.tuple #[]) ∧ u' = .returning ∧ w' = w := by
  refine callsD_of_wpS Tryz.func123 rfl fun c₀ cs hu => ?_
  apply wpS_seq
  apply wpS_region
  simp [wpOpsS, go_sem, recoverD, hu, Tryz.ntmps123, Exit.thenS]
  apply wpS_seq
  apply wpS_region
  simp [wpOpsS, go_sem, recoverD, Exit.thenS]
  refine wpS_cond (t := false) (by simp [Act.eval]) ?_
  simp only [Bool.false_eq_true, if_false]
  refine wpS_of_wp (wp_skip ?_)
  cases c₀
  simp_all [bodyPostS, results, Tryz.results123]
theorem SlB.cells {w : World} {base s b n c : Nat} {xs : List Value} (h : SlB w base s (.slice (some ⟨b, 0, none⟩) n c) xs) {j : Nat} {u : Value} (hu : xs[j]? = some u) : w.cell? ⟨b, j, none⟩ = some u := by
  obtain ⟨⟨A, n', c', e, h1, h2, h3, h4⟩, _⟩ := h
  cases e
  have hj : j < xs.length := (List.getElem?_eq_some_iff.1 hu).1
  have hn : 0 < n := by
    rcases Nat.eq_zero_or_pos n with e | e
    · subst e; omega
    · exact e
  obtain ⟨ad, e, h5⟩ := h4 hn
  cases e
  have := h5 j u hu
  have e2 : (⟨b, 0, none⟩ : Addr).add j = ⟨b, j, none⟩ := by unfold Addr.add; split <;> simp_all
  rw [e2] at this
  exact this
theorem bosV_length (l : List Bo) : (bosV l).length = l.length * 3 := by
  induction l with
  | nil => rfl
  | cons b l ih =>
    have : bosV (b :: l) = boV b ++ bosV l := rfl
    rw [this, List.length_append, ih]
    simp [boV]
    omega
theorem bosV_get {l : List Bo} : ∀ {k : Nat} {b : Bo}, l[k]? = some b → (bosV l)[k * 3]? = some (.int .i64 b.x) ∧ (bosV l)[k * 3 + 1]? = some (.int .i64 b.y) ∧ (bosV l)[k * 3 + 2]? = some (.int .i64 b.by_) := by
  induction l with
  | nil => intro k b h; simp at h
  | cons x l ih =>
    intro k b h
    have e : bosV (x :: l) = boV x ++ bosV l := rfl
    rw [e]
    cases k with
    | zero => simp at h; subst h; exact ⟨rfl, rfl, rfl⟩
    | succ k =>
      obtain ⟨h1, h2, h3⟩ := ih (k := k) (b := b) (by simpa using h)
      have hl : (boV x).length = 3 := rfl
      refine ⟨?_, ?_, ?_⟩
      · rw [List.getElem?_append_right (by omega), hl, show (k + 1) * 3 - 3 = k * 3 by omega]; exact h1
      · rw [List.getElem?_append_right (by omega), hl, show (k + 1) * 3 + 1 - 3 = k * 3 + 1 by omega]; exact h2
      · rw [List.getElem?_append_right (by omega), hl, show (k + 1) * 3 + 2 - 3 = k * 3 + 2 by omega]; exact h3
theorem amL_one (D : Mat) (b : Bo) : amL D [b] = am D b.x b.y b.by_ := by
  unfold amL
  cases am D b.x b.y b.by_ <;> rfl
theorem amL_next {D : Mat} {l : List Bo} {k : Nat} {b : Bo} {E : Mat} (hb : l[k]? = some b) (h : amL D (l.take k) = some E) : amL D (l.take (k + 1)) = am E b.x b.y b.by_ := by
  rw [List.take_add_one, hb, amL_append, h]
  exact amL_one E b
theorem amL_stop {D : Mat} {l : List Bo} {k : Nat} (h : amL D (l.take k) = none) : amL D l = none := by
  have := amL_append D (l.take k) (l.drop k)
  rw [List.take_append_drop, h] at this
  exact this
theorem grown_new {a b c : World} {B n : Nat} (h : a.grownBy b (some B)) (k : b.grownBy c (some n)) (hn : a.heap.size ≤ n) : a.grownBy c (some B) :=
  h.andThen k (fun j e => by cases e; exact .inl hn)
/-- What add does. -/
def AddP (B : Nat) (pv : Value) (w : World) (r : Option Mat) (e : Ending) (w' : World) : Prop :=
  e = .returned (.bool r.isSome) ∧ w.grownBy w' (some B) ∧ ∀ D', r = some D' → ∃ vs', LvV vs' pv D' ∧ Cel w' B 134 vs'
theorem InL.take {p : Nat} {l : List Bo} (h : InL p l) (k : Nat) : InL p (l.take k) := fun b hb => h b (List.mem_of_mem_take hb)

set_option maxRecDepth 100000 in
set_option maxHeartbeats 4000000 in
theorem padd_any (B : Nat) (ps : List ByteArray) (f : Fa) (D : Mat) (pv : Value) (vs : Array Value) (w : World) (hC : Cel w B 134 vs) (hV : LvV vs pv D) (hS : Sl w 1 pv (namesV ps)) (hp : ps.length ≤ 24) (hG : Good ps.length D) (hf : aboutB ps f = true) :
    Calls Tryz.prog 100 #[.pointer (some ⟨B, 0, none⟩), faA f] w (AddP B pv w (amL D (boundsF ps f))) := by
  have HIn := Lib.hid (boundsF_in hf)
  have HSm := Lib.hid (boundsF_small hf)
  have HBd := Lib.hid (fun w' hh => bounds_any B ps f w' hh hp hf)
  have hlt := hC.lt
  have hmf : ∀ (fn : Fn) (first cap : Array Value) (w : World), (Instr.makeFunc fn first cap).run Tryz.prog w = .ok (.func fn first cap) w := fun _ _ _ _ => rfl
  have HC := Lib.hid hC
  have HV := Lib.hid hV
  have HS := Lib.hid hS
  have HG := Lib.hid hG
  unfold faA at *
  clear hC hV hS hG hf
  generalize hbs : boundsF ps f = bs at *
  obtain ⟨k, a, b, t⟩ := f
  simp only at *
  clear hbs
  go_enter_defers Tryz.func100, Tryz.ntmps100
  go_wp2_with fail
  have Y0 := Cel.new (w.alloc (.cells #[.int .i64 k, .string a, .string b, .int .i64 t] 76)) 4 #[.bool false]
  have hsz : ((w.alloc (.cells #[.int .i64 k, .string a, .string b, .int .i64 t] 76)).alloc (.cells #[.bool false] 4)).heap.size = w.heap.size + 2 := by simp
  have hb0 := (below_alloc' w (.cells #[.int .i64 k, .string a, .string b, .int .i64 t] 76)).alloc (by simp) (.cells #[.bool false] 4)
  rw [World.size_alloc] at Y0
  obtain ⟨W0, hW0⟩ : ∃ W0, (w.alloc (.cells #[.int .i64 k, .string a, .string b, .int .i64 t] 76)).alloc (.cells #[.bool false] 4) = W0 := ⟨_, rfl⟩
  rw [hW0] at Y0 hsz hb0 ⊢
  clear hW0
  have HY := Lib.hid Y0
  have HZ := Lib.hid hsz
  have HB0 := Lib.hid hb0
  clear Y0 hsz hb0
  refine (HBd.out W0 ⟨vs, pv, HC.out.below hlt HB0.out, HV.out.2.1, HS.out.below HB0.out⟩).mono ?_
  rintro e w1 ⟨v, rfl, hs1, hb1⟩
  obtain ⟨hs2, bv, n, c, rfl, hbv⟩ := hs1
  have hn : n = bs.length := by
    obtain ⟨A, n', c', e, h1, _⟩ := hs2
    cases e
    rw [bosV_length] at h1
    omega
  subst hn
  have hcap : bs.length ≤ c ∧ (c : Int) ≤ 9223372036854775807 := by
    obtain ⟨A, n', c', e, h1, h2, h3, _⟩ := hs2
    cases e
    exact ⟨h2, h3⟩
  have HSL := Lib.hid (show SlB w1 W0.heap.size 3 (.slice (some ⟨bv, 0, none⟩) bs.length c) (bosV bs) from ⟨hs2, bv, _, c, rfl, hbv⟩)
  have HB1 := Lib.hid (HB0.out.trans (hb1.mono HB0.out.size))
  have HY1 := Lib.hid (HY.out.below HY.out.lt hb1)
  have HWS := Lib.hid hb1.size
  have hbB : B < W0.heap.size := by have := HZ.out; omega
  have hok : w.heap.size + 1 < W0.heap.size := by have := HZ.out; omega
  have HC1 := Lib.hid (HC.out.below hlt HB1.out)
  have HG1 := Lib.hid (show w.grownBy w1 (some B) from ⟨HB1.out.os, HB1.out.tape, HB1.out.output, HB1.out.size, fun i hi _ => HB1.out.block i hi⟩)
  clear hs2 hb1 HB1 HY HZ HB0 HBd HC
  go_wp2
  go_loopw [12] (fun ti wr => ∃ (j : Nat) (us : Array Value) (E : Mat), ti = .int .i64 j ∧ j ≤ bs.length ∧ Hid (amL D (bs.take j) = some E) ∧ Hid (LvV us pv E) ∧ Hid (Cel wr B 134 us) ∧ Hid (w.grownBy wr (some B)) ∧ Hid (Cel wr (w.heap.size + 1) 4 #[.bool false]) ∧ Hid (SlB wr W0.heap.size 3 (.slice (some ⟨bv, 0, none⟩) bs.length c) (bosV bs)) ∧ Hid (W0.heap.size ≤ wr.heap.size)) (fun ti _ => bs.length - (intOf ti).toNat)
  case atStart => exact ⟨0, vs, D, rfl, by omega, rfl, HV.out, HC1.out, HG1.out, HY1.out, HSL.out, HWS.out⟩
  case round =>
    clear HV HC1 HG1 HY1 HSL HWS
    obtain ⟨j, us, E, rfl, hj, HE, HV, HC, HGr, HY, HSL, HWS⟩ := hrel
    by_cases hlj : j < bs.length
    · have hji : (j : Int) < (bs.length : Int) := by omega
      have hb : bs[j]? = some bs[j] := List.getElem?_eq_getElem hlj
      have hm : bs[j] ∈ bs := List.getElem_mem hlj
      have hin := HIn.out _ hm
      have hsm := HSm.out _ hm
      generalize bs[j] = b at *
      obtain ⟨x, y, by_⟩ := b
      simp only at hin hsm
      have hx := hin.1.lt hp
      have hy := hin.2.lt hp
      obtain ⟨g1, g2, g3⟩ := bosV_get hb
      have c1 := HSL.out.cells g1
      have c2 := HSL.out.cells g2
      have c3 := HSL.out.cells g3
      simp only at c1 c2 c3
      have hge := (amL_some HG.out (HIn.out.take j) HE.out).1
      have HN := Lib.hid (amL_next hb HE.out)
      have HAM := Lib.hid (fun w' hh => atMost_any B x y by_ E pv us w' hh HV.out hge.dbd hx hy (by omega))
      clear g1 g2 g3 hin hsm hge hb hm
      go_wp2_with fail
      have HCa := Lib.hid (HC.out.alloc (.cells #[.int .i64 (x : Int), .int .i64 (y : Int), .int .i64 by_] 141))
      have HYa := Lib.hid (HY.out.alloc (.cells #[.int .i64 (x : Int), .int .i64 (y : Int), .int .i64 by_] 141))
      have HGa := Lib.hid (HGr.out.trans (World.grownBy_alloc wr (.cells #[.int .i64 (x : Int), .int .i64 (y : Int), .int .i64 by_] 141) (some B)))
      have HSa := Lib.hid (HSL.out.below (below_alloc' wr (.cells #[.int .i64 (x : Int), .int .i64 (y : Int), .int .i64 by_] 141)))
      have HWa := Lib.hid (show W0.heap.size ≤ (wr.alloc (.cells #[.int .i64 (x : Int), .int .i64 (y : Int), .int .i64 by_] 141)).heap.size by have := HWS.out; simp; omega)
      generalize wr.alloc (.cells #[.int .i64 (x : Int), .int .i64 (y : Int), .int .i64 by_] 141) = wa at *
      refine (HAM.out wa HCa.out).mono ?_
      rintro e w2 (⟨hn0, rfl, rfl⟩ | ⟨E', vs', hs, rfl, hV', hC', hg'⟩)
      · have HN2 := Lib.hid (HN.out.trans hn0)
        clear hn0
        go_wp2
        have cy := HYa.out.cell 0 _ rfl
        have fy := HYa.out.frozen 0
        have HG2 := Lib.hid (grown_new HGa.out (grown_set w2 (w.heap.size + 1) 0 (.bool false)) (Nat.le_succ _))
        have HY2 := Lib.hid (HYa.out.setAt 0 (.bool false))
        refine leaves_cons (f := 123) (args := #[.pointer (some ⟨w.heap.size + 1, 0, none⟩)]) (by simp) (by simp [go_sem]) ?_
        refine (catch_panicking ⟨w.heap.size + 1, 0, none⟩ false 191 (.agg #[]) [] _ cy fy).mono ?_
        rintro e u' w'' ⟨rfl, rfl, rfl⟩
        have cz := HY2.out.cell 0 _ rfl
        simp [Leaves, settle, results, Tryz.results100, go_sem, cz]
        rw [amL_stop HN2.out]
        exact ⟨rfl, HG2.out, fun D' h => by cases h⟩
      · have HV2 := Lib.hid hV'
        have HC2 := Lib.hid hC'
        have HG2 := Lib.hid (HGa.out.trans hg')
        have HY2 := Lib.hid (HYa.out.kept hg' (by simp; omega))
        have HS2 := Lib.hid (HSa.out.kept hg' hbB)
        have HW2 := Lib.hid (Nat.le_trans HWa.out hg'.size)
        have HE2 := Lib.hid (HN.out.trans hs)
        clear hV' hC' hg' hs
        go_wp2
        go_roundw
        case rel => exact ⟨j + 1, vs', E', by go_num, by omega, HE2.out, HV2.out, HC2.out, HG2.out, HY2.out, HS2.out, HW2.out⟩
        case measure => simp [intOf]; omega
    · have hjn : j = bs.length := by omega
      have cy := HY.out.cell 0 _ rfl
      have fy := HY.out.frozen 0
      go_wp2
      have HY2 := Lib.hid (HY.out.setAt 0 (.bool true))
      have HG2 := Lib.hid (grown_new HGr.out (grown_set wr (w.heap.size + 1) 0 (.bool true)) (Nat.le_succ _))
      have HC2 := Lib.hid (HC.out.other (p := ⟨w.heap.size + 1, 0, none⟩) (by simp; omega) (.bool true))
      refine leaves_cons (f := 123) (args := #[.pointer (some ⟨w.heap.size + 1, 0, none⟩)]) (by simp) (by simp [go_sem]) ?_
      refine (catch_idle ⟨w.heap.size + 1, 0, none⟩ _).mono ?_
      rintro e u' w'' ⟨rfl, rfl, rfl⟩
      have cz := HY2.out.cell 0 _ rfl
      simp [Leaves, settle, results, Tryz.results100, go_sem, cz]
      have ee : amL D bs = some E := by have := HE.out; rw [hjn, List.take_length] at this; exact this
      rw [ee]
      exact ⟨rfl, HG2.out, fun D' h => by cases h; exact ⟨us, HV.out, HC2.out⟩⟩
end

section
open Go Go.RowKit Go.Shelf
attribute [local go_sem] Oper.semAt_some

def fasV (fs : List Fa) : List Value := fs.flatMap faV
theorem fasV_length (l : List Fa) : (fasV l).length = l.length * 4 := by
  induction l with
  | nil => rfl
  | cons b l ih =>
    have : fasV (b :: l) = faV b ++ fasV l := rfl
    rw [this, List.length_append, ih]
    simp [faV]
    omega
theorem fasV_get {l : List Fa} : ∀ {k : Nat} {f : Fa}, l[k]? = some f → (fasV l)[k * 4]? = some (.int .i64 f.kind) ∧ (fasV l)[k * 4 + 1]? = some (.string f.a) ∧ (fasV l)[k * 4 + 2]? = some (.string f.b) ∧ (fasV l)[k * 4 + 3]? = some (.int .i64 f.at_) := by
  induction l with
  | nil => intro k b h; simp at h
  | cons x l ih =>
    intro k b h
    have e : fasV (x :: l) = faV x ++ fasV l := rfl
    rw [e]
    cases k with
    | zero => simp at h; subst h; exact ⟨rfl, rfl, rfl, rfl⟩
    | succ k =>
      obtain ⟨h1, h2, h3, h4⟩ := ih (k := k) (f := b) (by simpa using h)
      have hl : (faV x).length = 4 := rfl
      refine ⟨?_, ?_, ?_, ?_⟩
      · rw [List.getElem?_append_right (by omega), hl, show (k + 1) * 4 - 4 = k * 4 by omega]; exact h1
      · rw [List.getElem?_append_right (by omega), hl, show (k + 1) * 4 + 1 - 4 = k * 4 + 1 by omega]; exact h2
      · rw [List.getElem?_append_right (by omega), hl, show (k + 1) * 4 + 2 - 4 = k * 4 + 2 by omega]; exact h3
      · rw [List.getElem?_append_right (by omega), hl, show (k + 1) * 4 + 3 - 4 = k * 4 + 3 by omega]; exact h4
/-- A network in memory. -/
structure NetC (w : World) (A : Option Addr) (n c : Nat) (F : Option Addr) (m d : Nat) (ps : List ByteArray) (fs : List Fa) : Prop where
  people : Sl w 1 (.slice A n c) (namesV ps)
  facts : Sl w 4 (.slice F m d) (fasV fs)
theorem NetC.below {w w' : World} {A : Option Addr} {n c : Nat} {F : Option Addr} {m d : Nat} {ps : List ByteArray} {fs : List Fa} (h : NetC w A n c F m d ps fs) (hb : Below w.heap.size w w') : NetC w' A n c F m d ps fs :=
  ⟨h.people.below hb, h.facts.below hb⟩
theorem NetC.many {w : World} {A : Option Addr} {n c : Nat} {F : Option Addr} {m d : Nat} {ps : List ByteArray} {fs : List Fa} (h : NetC w A n c F m d ps fs) : n = ps.length ∧ m = fs.length ∧ n ≤ c ∧ m ≤ d ∧ (c : Int) ≤ 9223372036854775807 ∧ (d : Int) ≤ 9223372036854775807 := by
  obtain ⟨⟨A1, n1, c1, e, h1, h2, h3, _⟩, ⟨A2, n2, c2, e2, k1, k2, k3, _⟩⟩ := h
  cases e
  cases e2
  rw [namesV_length] at h1
  rw [fasV_length] at k1
  exact ⟨by omega, by omega, h2, k2, h3, k3⟩
/-- The cells of a fact. -/
theorem NetC.fact {w : World} {A : Option Addr} {n c : Nat} {F : Option Addr} {m d : Nat} {ps : List ByteArray} {fs : List Fa} (h : NetC w A n c F m d ps fs) (hm : 0 < fs.length) : ∃ b o, F = some ⟨b, o, none⟩ ∧ b < w.heap.size ∧ ∀ k f, fs[k]? = some f →
    w.cell? ⟨b, o + k * 4, none⟩ = some (.int .i64 f.kind) ∧ w.cell? ⟨b, o + k * 4 + 1, none⟩ = some (.string f.a) ∧ w.cell? ⟨b, o + k * 4 + 2, none⟩ = some (.string f.b) ∧ w.cell? ⟨b, o + k * 4 + 3, none⟩ = some (.int .i64 f.at_) := by
  obtain ⟨A1, n1, c1, e, hl, _, _, hcl⟩ := h.facts.open2 (by decide)
  cases e
  rw [fasV_length] at hl
  obtain ⟨b, o, rfl, hb, hce⟩ := hcl (by omega)
  refine ⟨b, o, rfl, hb, fun k f hk => ?_⟩
  obtain ⟨g1, g2, g3, g4⟩ := fasV_get hk
  have a1 := hce _ _ g1
  have a2 := hce _ _ g2
  have a3 := hce _ _ g3
  have a4 := hce _ _ g4
  rw [← Nat.add_assoc] at a2 a3 a4
  exact ⟨a1, a2, a3, a4⟩
theorem solveF_next {ps : List ByteArray} {fs : List Fa} {j : Nat} {f : Fa} {E : Mat} (hf : fs[j]? = some f) (h : solveF ps (fs.take j) = some E) : solveF ps (fs.take (j + 1)) = amL E (boundsF ps f) := by
  rw [List.take_add_one, hf]
  simp only [Option.toList_some]
  rw [solveF_snoc, h]
  rfl
theorem solveF_stop {ps : List ByteArray} {fs : List Fa} {j : Nat} (h : solveF ps (fs.take j) = none) : solveF ps fs = none := by
  have := solveF_none_append (gs := fs.drop j) h
  rwa [List.take_append_drop] at this
/-- What solve does. -/
def SolP (pv : Value) (w : World) (r : Option Mat) (e : Ending) (w' : World) : Prop :=
  Below w.heap.size w w' ∧ ((r = none ∧ e = .returned (.tuple #[.pointer none, .bool false])) ∨ ∃ D B vs, r = some D ∧ e = .returned (.tuple #[.pointer (some ⟨B, 0, none⟩), .bool true]) ∧ w.heap.size ≤ B ∧ LvV vs pv D ∧ Cel w' B 134 vs)
theorem AllAbout.take {ps : List ByteArray} {fs : List Fa} (h : AllAbout ps fs) (j : Nat) : AllAbout ps (fs.take j) := fun f hf => h f (List.mem_of_mem_take hf)

set_option maxRecDepth 100000 in
set_option maxHeartbeats 4000000 in
theorem solve_any (A : Option Addr) (n c : Nat) (F : Option Addr) (m d : Nat) (ps : List ByteArray) (fs : List Fa) (w : World) (h : NetC w A n c F m d ps fs) (hp : ps.length ≤ 24) (hf : AllAbout ps fs) :
    Calls Tryz.prog 59 #[.agg #[.slice A n c, .slice F m d]] w (SolP (.slice A n c) w (solveF ps fs)) := by
  obtain ⟨e1, e2, h1, h2, h3, h4⟩ := h.many
  subst e1
  subst e2
  have HN := Lib.hid h
  have HB := Lib.hid (fun w' => born_any A ps.length c w' hp)
  have HF := Lib.hid hf
  have HFc := Lib.hid (fun q => h.fact q)
  clear h hf
  go_enter Tryz.func59, Tryz.ntmps59
  go_wp2_with fail
  have hb0 := below_alloc' w (.cells #[.slice A ps.length c, .slice F fs.length d] 25)
  have y0 := Cel.new w 25 #[.slice A ps.length c, .slice F fs.length d]
  have hsz : (w.alloc (.cells #[.slice A ps.length c, .slice F fs.length d] 25)).heap.size = w.heap.size + 1 := by simp
  generalize w.alloc (.cells #[.slice A ps.length c, .slice F fs.length d] 25) = W at *
  refine (HB.out W).mono ?_
  rintro e w1 ⟨rfl, hb1, vs, hV, hC⟩
  have hbb := hb0.trans (hb1.mono hb0.size)
  replace y0 := y0.below (by omega) hb1
  rw [hsz] at hC ⊢
  have HC := Lib.hid hC
  have HV := Lib.hid hV
  have HBl := Lib.hid hbb
  have z0 := y0.cell 0 _ rfl
  have z1 := y0.cell 1 _ rfl
  clear hb0 hsz hb1 hC hV hbb y0
  go_wp2
  go_loopw [13] (fun ti wr => ∃ (j : Nat) (us : Array Value) (E : Mat), ti = .int .i64 j ∧ j ≤ fs.length ∧ Hid (solveF ps (fs.take j) = some E) ∧ Hid (LvV us (.slice A ps.length c) E) ∧ Hid (Cel wr (w.heap.size + 1) 134 us) ∧ Hid (Below w.heap.size w wr)) (fun ti _ => fs.length - (intOf ti).toNat)
  case atStart => exact ⟨0, vs, _, rfl, by omega, rfl, HV.out, HC.out, HBl.out⟩
  case round =>
    clear HV HC HBl z0 z1 HB
    obtain ⟨j, us, E, rfl, hj, HE, HV, HC, HBl⟩ := hrel
    by_cases hlj : j < fs.length
    · have hji : (j : Int) < (fs.length : Int) := by omega
      obtain ⟨b0, o0, rfl, hb, hce⟩ := HFc.out (by omega)
      have hfj : fs[j]? = some fs[j] := List.getElem?_eq_getElem hlj
      have hm : fs[j] ∈ fs := List.getElem_mem hlj
      have ha := HF.out _ hm
      obtain ⟨g1, g2, g3, g4⟩ := hce j _ hfj
      replace g1 := below_cell HBl.out g1
      replace g2 := below_cell HBl.out g2
      replace g3 := below_cell HBl.out g3
      replace g4 := below_cell HBl.out g4
      have HX := Lib.hid (solveF_next hfj HE.out)
      have HG := Lib.hid (solveF_good hp (HF.out.take j) HE.out)
      have HA := Lib.hid (fun w' h1 h2 => padd_any (w.heap.size + 1) ps fs[j] E (.slice A ps.length c) us w' h1 HV.out h2 hp HG.out ha)
      clear hce hfj hm ha HG
      unfold faA at HA
      generalize fs[j] = f at *
      obtain ⟨k, a, b, t⟩ := f
      simp only at g1 g2 g3 g4 HA
      go_wp2_with fail
      have HCa := Lib.hid (HC.out.alloc (.cells #[.int .i64 k, .string a, .string b, .int .i64 t] 76))
      have HBa := Lib.hid (HBl.out.alloc HBl.out.size (.cells #[.int .i64 k, .string a, .string b, .int .i64 t] 76))
      generalize wr.alloc (.cells #[.int .i64 k, .string a, .string b, .int .i64 t] 76) = wa at *
      refine (HA.out wa HCa.out (HN.out.people.below HBa.out)).mono ?_
      rintro e w2 ⟨rfl, hg, hr⟩
      have HB2 := Lib.hid (HBa.out.grown hg (by have := HBa.out.size; omega) (fun i e => by cases e; omega))
      have HR := Lib.hid hr
      clear hr hg g1 g2 g3 g4 HA
      cases hq : amL E (boundsF ps ⟨k, a, b, t⟩) with
      | none =>
        have HQ := Lib.hid hq
        clear hq
        simp only [Option.isSome_none]
        go_wp2
        go_ret2
        exact ⟨HB2.out, .inl ⟨solveF_stop (HX.out.trans HQ.out), rfl⟩⟩
      | some E' =>
        have HQ := Lib.hid hq
        clear hq
        simp only [Option.isSome_some]
        obtain ⟨vs', hV', hC'⟩ := HR.out E' HQ.out
        have HV2 := Lib.hid hV'
        have HC2 := Lib.hid hC'
        clear hV' hC'
        go_wp2
        go_roundw
        case rel => exact ⟨j + 1, vs', E', by go_num, by omega, HX.out.trans HQ.out, HV2.out, HC2.out, HB2.out⟩
        case measure => simp [intOf]; omega
    · have hjn : j = fs.length := by omega
      have HJ := Lib.hid hjn
      clear hjn
      go_wp2
      go_ret2
      refine ⟨HBl.out, .inr ⟨E, _, us, ?_, rfl, Nat.le_succ _, HV.out, HC.out⟩⟩
      have := HE.out
      rw [HJ.out, List.take_length] at this
      exact this
end

section
open Go Go.RowKit Go.Shelf
attribute [local go_sem] Oper.semAt_some

theorem pair_any (k : Int) (w : World) : Calls Tryz.prog 120 #[.int .i64 k] w fun e w' => e = .returned (.bool (pairB k)) ∧ w = w' := by
  by_cases h1 : k = 1
  · subst h1
    go_enter Tryz.func120, Tryz.ntmps120
    go_wp2
    go_ret
    exact ⟨rfl, rfl⟩
  · by_cases h2 : k = 2
    · subst h2
      go_enter Tryz.func120, Tryz.ntmps120
      go_wp2
      go_ret
      exact ⟨rfl, rfl⟩
    · by_cases h3 : k = 3
      · subst h3
        go_enter Tryz.func120, Tryz.ntmps120
        go_wp2
        go_ret
        exact ⟨rfl, rfl⟩
      · have e1 : (k == 1) = false := beq_eq_false_iff_ne.2 h1
        have e2 : (k == 2) = false := beq_eq_false_iff_ne.2 h2
        have e3 : (k == 3) = false := beq_eq_false_iff_ne.2 h3
        have hp : pairB k = false := decide_eq_false (by omega)
        have HP := Lib.hid hp
        clear hp h1 h2 h3
        go_enter Tryz.func120, Tryz.ntmps120
        go_wp2
        go_ret
        exact ⟨by rw [HP.out]; rfl, rfl⟩
set_option maxHeartbeats 1000000 in
theorem about_any (v : Value) (ps : List ByteArray) (f : Fa) (w : World) (h : Sl w 1 v (namesV ps)) :
    Calls Tryz.prog 96 #[v, faA f] w fun e w' => e = .returned (.bool (aboutB ps f)) ∧ Below w.heap.size w w' := by
  obtain ⟨A, n, c, rfl, h⟩ := h.shape
  obtain ⟨k, a, b, t⟩ := f
  have HA := Lib.hid (h.below (below_alloc' w (.cells #[.int .i64 k, .string a, .string b, .int .i64 t] 76)))
  have HB := Lib.hid (below_alloc' w (.cells #[.int .i64 k, .string a, .string b, .int .i64 t] 76))
  have HC := Lib.hid (fun s => contains_any (.slice A n c) ps s _ HA.out)
  have HP := Lib.hid (fun w' => pair_any k w')
  have hcA := HC.out a
  have hcB := HC.out b
  clear h
  have HR : ∀ r, aboutB ps ⟨k, a, b, t⟩ = r → Hid (aboutB ps ⟨k, a, b, t⟩ = r) := fun r h => Lib.hid h
  unfold faA
  simp only
  by_cases h1 : k < 1
  · have hr := HR false (by unfold aboutB; rw [decide_eq_false (by simp only; omega)]; rfl)
    clear HR hcA hcB
    go_enter Tryz.func96, Tryz.ntmps96
    go_wp2
    go_ret
    exact ⟨by rw [hr.out]; rfl, HB.out⟩
  · by_cases h2 : 7 < k
    · have hr := HR false (by unfold aboutB; rw [decide_eq_false (by simp only; omega)]; rfl)
      clear HR hcA hcB
      go_enter Tryz.func96, Tryz.ntmps96
      go_wp2
      go_ret
      exact ⟨by rw [hr.out]; rfl, HB.out⟩
    · cases hma : memB ps a with
      | false =>
        have hr := HR false (by unfold aboutB; simp only [hma, Bool.and_false, Bool.false_and])
        rw [hma] at hcA
        have KA := Lib.hid hcA
        clear HR hcA hcB hma
        go_enter Tryz.func96, Tryz.ntmps96
        go_wp2_with fail
        refine KA.out.mono ?_
        rintro e w' ⟨rfl, rfl⟩
        go_wp2
        go_ret
        exact ⟨by rw [hr.out]; rfl, HB.out⟩
      | true =>
        rw [hma] at hcA
        have KA := Lib.hid hcA
        have HM := Lib.hid hma
        clear hcA hma
        have hk1 : 1 ≤ k := by omega
        have hk7 : k ≤ 7 := by omega
        by_cases h3 : k ≤ 3
        · have KP := Lib.hid (show Calls Tryz.prog 120 #[.int .i64 k] (w.alloc (.cells #[.int .i64 k, .string a, .string b, .int .i64 t] 76)) fun e w' => e = .returned (.bool true) ∧ (w.alloc (.cells #[.int .i64 k, .string a, .string b, .int .i64 t] 76)) = w' by have := HP.out (w.alloc (.cells #[.int .i64 k, .string a, .string b, .int .i64 t] 76)); rw [show pairB k = true from decide_eq_true ⟨hk1, h3⟩] at this; exact this)
          have hp : pairB k = true := decide_eq_true ⟨hk1, h3⟩
          by_cases hba : b = a
          · have hr := HR false (by rw [Bool.eq_false_iff]; intro q; exact ((aboutB_iff.1 q).2.2.1 h3).1 hba)
            subst hba
            have hq : (b.toList == b.toList) = true := by simp
            clear HR hcB hp
            go_enter Tryz.func96, Tryz.ntmps96
            go_wp2_with fail
            refine KA.out.mono ?_
            rintro e w' ⟨rfl, rfl⟩
            go_wp2_with fail
            refine KP.out.mono ?_
            rintro e w' ⟨rfl, rfl⟩
            go_wp2
            go_ret
            exact ⟨by rw [hr.out]; rfl, HB.out⟩
          · have hq : (b.toList == a.toList) = false := by
              rw [Bool.eq_false_iff]; intro q; exact hba (by rw [Lib.bytes_beq_iff] at q; exact q)
            cases hmb : memB ps b with
            | false =>
              have hr := HR false (by unfold aboutB; simp only [hp, if_true, hmb, Bool.and_false, Bool.false_and])
              rw [hmb] at hcB
              have KB := Lib.hid hcB
              clear HR hcB hp hba hmb
              go_enter Tryz.func96, Tryz.ntmps96
              go_wp2_with fail
              refine KA.out.mono ?_
              rintro e w' ⟨rfl, rfl⟩
              go_wp2_with fail
              refine KP.out.mono ?_
              rintro e w' ⟨rfl, rfl⟩
              go_wp2_with fail
              refine KB.out.mono ?_
              rintro e w' ⟨rfl, rfl⟩
              go_wp2
              go_ret
              exact ⟨by rw [hr.out]; rfl, HB.out⟩
            | true =>
              rw [hmb] at hcB
              have KB := Lib.hid hcB
              by_cases ht : t = 0
              · have hr := HR true (aboutB_iff.2 ⟨⟨hk1, hk7⟩, memB_iff.1 HM.out, fun _ => ⟨hba, memB_iff.1 hmb, ht⟩, fun q => absurd h3 q⟩)
                subst ht
                clear HR hcB hp hba hmb
                go_enter Tryz.func96, Tryz.ntmps96
                go_wp2_with fail
                refine KA.out.mono ?_
                rintro e w' ⟨rfl, rfl⟩
                go_wp2_with fail
                refine KP.out.mono ?_
                rintro e w' ⟨rfl, rfl⟩
                go_wp2_with fail
                refine KB.out.mono ?_
                rintro e w' ⟨rfl, rfl⟩
                go_wp2
                go_ret
                exact ⟨by rw [hr.out]; rfl, HB.out⟩
              · have hr := HR false (by unfold aboutB; simp only [hp, if_true]; rw [decide_eq_false ht]; simp)
                have ht2 : (t == 0) = false := beq_eq_false_iff_ne.2 ht
                clear HR hcB hp hba hmb ht
                go_enter Tryz.func96, Tryz.ntmps96
                go_wp2_with fail
                refine KA.out.mono ?_
                rintro e w' ⟨rfl, rfl⟩
                go_wp2_with fail
                refine KP.out.mono ?_
                rintro e w' ⟨rfl, rfl⟩
                go_wp2_with fail
                refine KB.out.mono ?_
                rintro e w' ⟨rfl, rfl⟩
                go_wp2
                go_ret
                exact ⟨by rw [hr.out]; rfl, HB.out⟩
        · have hp : pairB k = false := decide_eq_false (by omega)
          have KP := Lib.hid (show Calls Tryz.prog 120 #[.int .i64 k] (w.alloc (.cells #[.int .i64 k, .string a, .string b, .int .i64 t] 76)) fun e w' => e = .returned (.bool false) ∧ (w.alloc (.cells #[.int .i64 k, .string a, .string b, .int .i64 t] 76)) = w' by have := HP.out (w.alloc (.cells #[.int .i64 k, .string a, .string b, .int .i64 t] 76)); rw [hp] at this; exact this)
          by_cases hb : b = ByteArray.empty
          · by_cases ht1 : -1000 ≤ t
            · by_cases ht2 : t ≤ 1000
              · have hr := HR true (aboutB_iff.2 ⟨⟨hk1, hk7⟩, memB_iff.1 HM.out, fun q => absurd q h3, fun _ => ⟨hb, ht1, ht2⟩⟩)
                subst hb
                clear HR hcB hp
                go_enter Tryz.func96, Tryz.ntmps96
                go_wp2_with fail
                refine KA.out.mono ?_
                rintro e w' ⟨rfl, rfl⟩
                go_wp2_with fail
                refine KP.out.mono ?_
                rintro e w' ⟨rfl, rfl⟩
                go_wp2
                go_ret
                exact ⟨by rw [hr.out]; rfl, HB.out⟩
              · have hr := HR false (by unfold aboutB; simp only [hp, Bool.false_eq_true, if_false]; rw [decide_eq_false (show ¬ (-1000 ≤ t ∧ t ≤ 1000) by omega)]; simp)
                subst hb
                clear HR hcB hp
                go_enter Tryz.func96, Tryz.ntmps96
                go_wp2_with fail
                refine KA.out.mono ?_
                rintro e w' ⟨rfl, rfl⟩
                go_wp2_with fail
                refine KP.out.mono ?_
                rintro e w' ⟨rfl, rfl⟩
                go_wp2
                go_ret
                exact ⟨by rw [hr.out]; exact ret_bool (decide_eq_false (by omega)), HB.out⟩
            · have hr := HR false (by unfold aboutB; simp only [hp, Bool.false_eq_true, if_false]; rw [decide_eq_false (show ¬ (-1000 ≤ t ∧ t ≤ 1000) by omega)]; simp)
              subst hb
              clear HR hcB hp
              go_enter Tryz.func96, Tryz.ntmps96
              go_wp2_with fail
              refine KA.out.mono ?_
              rintro e w' ⟨rfl, rfl⟩
              go_wp2_with fail
              refine KP.out.mono ?_
              rintro e w' ⟨rfl, rfl⟩
              go_wp2
              go_ret
              exact ⟨by rw [hr.out]; rfl, HB.out⟩
          · have hr := HR false (by unfold aboutB; simp only [hp, Bool.false_eq_true, if_false]; rw [decide_eq_false hb]; simp)
            have hq : (b.toList == []) = false := by
              rw [Bool.eq_false_iff]; intro q; exact hb ((Lib.bytes_beq_iff b ByteArray.empty).1 (by rw [show ByteArray.empty.toList = [] by simp]; exact q))
            have hq2 : b.toList.isEmpty = false := by
              rw [List.isEmpty_eq_false_iff]; intro q; rw [q] at hq; cases hq
            clear HR hcB hp hb
            go_enter Tryz.func96, Tryz.ntmps96
            go_wp2_with fail
            refine KA.out.mono ?_
            rintro e w' ⟨rfl, rfl⟩
            go_wp2_with fail
            refine KP.out.mono ?_
            rintro e w' ⟨rfl, rfl⟩
            go_wp2
            go_ret
            exact ⟨by rw [hr.out]; rfl, HB.out⟩
end

section
open Go Go.RowKit Go.Shelf
attribute [local go_sem] Oper.semAt_some

def okAt (ps : List ByteArray) (i : Nat) : Bool := nameB (ps.getD i ByteArray.empty) && (decide (i = 0) || Op.bytesLess (ps.getD (i - 1) ByteArray.empty).toList (ps.getD i ByteArray.empty).toList)
def namesOk (ps : List ByteArray) : Bool := (List.range ps.length).all (okAt ps)
def checkF (ps : List ByteArray) (fs : List Fa) : Int := if 24 < ps.length ∨ 48 < fs.length then 3 else if namesOk ps && fs.all (aboutB ps) then 0 else 100
theorem checkF_cases (ps : List ByteArray) (fs : List Fa) : checkF ps fs = 3 ∨ checkF ps fs = 100 ∨ (checkF ps fs = 0 ∧ ps.length ≤ 24 ∧ fs.length ≤ 48 ∧ namesOk ps = true ∧ AllAbout ps fs) := by
  unfold checkF
  by_cases h : 24 < ps.length ∨ 48 < fs.length
  · rw [if_pos h]; exact .inl rfl
  · rw [if_neg h]
    cases h2 : namesOk ps && fs.all (aboutB ps) with
    | false => exact .inr (.inl rfl)
    | true =>
      simp only [Bool.and_eq_true, List.all_eq_true] at h2
      exact .inr (.inr ⟨rfl, by omega, by omega, h2.1, h2.2⟩)
theorem okAt_no {ps : List ByteArray} {fs : List Fa} {i : Nat} (hi : i < ps.length) (h : okAt ps i = false) (hl : ¬ (24 < ps.length ∨ 48 < fs.length)) : checkF ps fs = 100 := by
  unfold checkF
  rw [if_neg hl, if_neg]
  intro q
  simp only [Bool.and_eq_true, namesOk, List.all_eq_true, List.mem_range] at q
  have := q.1 i hi
  rw [h] at this
  cases this
theorem about_no {ps : List ByteArray} {fs : List Fa} {f : Fa} (hf : f ∈ fs) (h : aboutB ps f = false) (hl : ¬ (24 < ps.length ∨ 48 < fs.length)) : checkF ps fs = 100 := by
  unfold checkF
  rw [if_neg hl, if_neg]
  intro q
  simp only [Bool.and_eq_true, List.all_eq_true] at q
  have := q.2 f hf
  rw [h] at this
  cases this
theorem NetC.person {w : World} {A : Option Addr} {n c : Nat} {F : Option Addr} {m d : Nat} {ps : List ByteArray} {fs : List Fa} (h : NetC w A n c F m d ps fs) (hm : 0 < ps.length) : ∃ b o, A = some ⟨b, o, none⟩ ∧ b < w.heap.size ∧ ∀ k s, ps[k]? = some s → w.cell? ⟨b, o + k, none⟩ = some (.string s) := by
  obtain ⟨A1, n1, c1, e, hl, _, _, hcl⟩ := h.people.open2 (by decide)
  cases e
  rw [namesV_length] at hl
  obtain ⟨b, o, rfl, hb, hce⟩ := hcl (by omega)
  exact ⟨b, o, rfl, hb, fun k s hk => hce _ _ (by simp [namesV, hk])⟩
def Short (ps : List ByteArray) : Prop := ∀ s ∈ ps, (s.size : Int) ≤ 9223372036854775807
theorem getD_of {ps : List ByteArray} {i : Nat} {s : ByteArray} (h : ps[i]? = some s) : ps.getD i ByteArray.empty = s := by simp [List.getD, h]

theorem ok_next {ps : List ByteArray} {i : Nat} (h : ∀ j, j < i → okAt ps j = true) (hk : okAt ps i = true) : ∀ j, j < i + 1 → okAt ps j = true := fun j hj => by
  rcases Nat.lt_succ_iff_lt_or_eq.1 hj with q | q
  · exact h j q
  · rw [q]; exact hk
theorem ok_all {ps : List ByteArray} {i : Nat} (h : ∀ j, j < i → okAt ps j = true) (hi : i = ps.length) : namesOk ps = true := by
  unfold namesOk
  rw [List.all_eq_true]
  exact fun j hj => h j (by rw [List.mem_range] at hj; omega)
theorem check_yes {ps : List ByteArray} {fs : List Fa} (hl : ¬ (24 < ps.length ∨ 48 < fs.length)) (h1 : namesOk ps = true) (h2 : AllAbout ps fs) : checkF ps fs = 0 := by
  unfold checkF
  rw [if_neg hl, if_pos]
  simp only [Bool.and_eq_true, List.all_eq_true]
  exact ⟨h1, h2⟩

set_option maxRecDepth 100000 in
set_option maxHeartbeats 4000000 in
theorem check_any (A : Option Addr) (n c : Nat) (F : Option Addr) (m d : Nat) (ps : List ByteArray) (fs : List Fa) (w : World) (h : NetC w A n c F m d ps fs) (hs : Short ps) :
    Calls Tryz.prog 56 #[.agg #[.slice A n c, .slice F m d]] w fun e w' => e = .returned (.int .i64 (checkF ps fs)) ∧ Below w.heap.size w w' := by
  obtain ⟨e1, e2, h1, h2, h3, h4⟩ := h.many
  subst e1
  subst e2
  have HN := Lib.hid h
  have HFc := Lib.hid (fun q => h.fact q)
  have HPc := Lib.hid (fun q => h.person q)
  have HS := Lib.hid hs
  have HR : ∀ r, checkF ps fs = r → Hid (checkF ps fs = r) := fun r h => Lib.hid h
  clear h hs
  have hb0 := below_alloc' w (.cells #[.slice A ps.length c, .slice F fs.length d] 25)
  have y0 := Cel.new w 25 #[.slice A ps.length c, .slice F fs.length d]
  by_cases q1 : 24 < ps.length
  · have hr := HR 3 (by unfold checkF; rw [if_pos (.inl q1)])
    clear HR y0
    go_enter Tryz.func56, Tryz.ntmps56
    go_wp2
    go_ret
    exact ⟨by rw [hr.out]; rfl, hb0⟩
  · by_cases q2 : 48 < fs.length
    · have hr := HR 3 (by unfold checkF; rw [if_pos (.inr q2)])
      clear HR y0
      go_enter Tryz.func56, Tryz.ntmps56
      go_wp2
      go_ret
      exact ⟨by rw [hr.out]; rfl, hb0⟩
    · have HL := Lib.hid (show ¬ (24 < ps.length ∨ 48 < fs.length) by omega)
      have z0 := y0.cell 0 _ rfl
      have z1 := y0.cell 1 _ rfl
      have HB0 := Lib.hid hb0
      have HY := Lib.hid y0
      clear hb0 y0
      have d1 : decide ((24 : Int) < (ps.length : Int)) = false := decide_eq_false (by omega)
      have d2 : decide ((48 : Int) < (fs.length : Int)) = false := decide_eq_false (by omega)
      go_enter Tryz.func56, Tryz.ntmps56
      go_wp2
      obtain ⟨W, hW⟩ : ∃ W, w.alloc (.cells #[.slice A ps.length c, .slice F fs.length d] 25) = W := ⟨_, rfl⟩
      rw [hW] at HB0 HY z0 z1 ⊢
      clear hW d1 d2
      go_loop [20] (fun ti => ∃ i : Nat, ti = .int .i64 i ∧ i ≤ ps.length ∧ Hid (∀ j, j < i → okAt ps j = true)) (fun ti => ps.length - (intOf ti).toNat)
      case atStart => exact ⟨0, rfl, by omega, fun j hj => absurd hj (Nat.not_lt_zero _)⟩
      case round =>
        obtain ⟨i, rfl, hi, HO⟩ := hrel
        by_cases hlt : i < ps.length
        · have hii : (i : Int) < (ps.length : Int) := by omega
          obtain ⟨b, o, rfl, hb, hce⟩ := HPc.out (by omega)
          have hget : ps[i]? = some ps[i] := List.getElem?_eq_getElem hlt
          have c1 := below_cell HB0.out (hce i _ hget)
          have HIs := Lib.hid (isName_any ps[i] W (HS.out _ (List.getElem_mem hlt)))
          have HD := Lib.hid (getD_of hget)
          cases hnb : nameB ps[i] with
          | false =>
            rw [hnb] at HIs
            have hr := HR 100 (okAt_no hlt (by unfold okAt; rw [HD.out, hnb]; rfl) HL.out)
            clear HR hnb hget hce
            generalize ps[i] = s at *
            go_wp2_with fail
            refine HIs.out.mono ?_
            rintro e w' ⟨rfl, rfl⟩
            go_wp2
            go_ret
            exact ⟨by rw [hr.out]; rfl, HB0.out⟩
          | true =>
            rw [hnb] at HIs
            by_cases h0 : i = 0
            · have HK := Lib.hid (show okAt ps i = true by unfold okAt; rw [HD.out, hnb, decide_eq_true h0]; rfl)
              have hgt : decide ((0 : Int) < (i : Int)) = false := decide_eq_false (by omega)
              have h00 : ¬ 0 < i := by omega
              have HZ := Lib.hid h0
              clear HR hnb hget hce h0
              generalize ps[i] = s at *
              go_wp2_with fail
              refine HIs.out.mono ?_
              rintro e w' ⟨rfl, rfl⟩
              go_wp2
              exact ⟨⟨i + 1, by go_num, by omega, ok_next HO.out HK.out⟩, by simp [intOf]; omega⟩
            · obtain ⟨q, rfl⟩ : ∃ q, i = q + 1 := ⟨i - 1, by omega⟩
              have hgetq : ps[q]? = some ps[q] := List.getElem?_eq_getElem (by omega)
              have c0 := below_cell HB0.out (hce q _ hgetq)
              have HDq := Lib.hid (getD_of hgetq)
              have hqi : (q : Int) < (ps.length : Int) := by omega
              cases hls : Op.bytesLess ps[q].toList ps[q + 1].toList with
              | true =>
                have HK := Lib.hid (show okAt ps (q + 1) = true by unfold okAt; rw [HD.out, hnb, Nat.add_sub_cancel, HDq.out, hls]; simp)
                clear HR hnb hget hgetq hce h0 HD HDq
                generalize ps[q] = t at *
                generalize ps[q + 1] = s at *
                go_wp2_with fail
                refine HIs.out.mono ?_
                rintro e w' ⟨rfl, rfl⟩
                go_wp2
                exact ⟨⟨q + 1 + 1, by go_num, by omega, ok_next HO.out HK.out⟩, by simp [intOf]; omega⟩
              | false =>
                have hr := HR 100 (okAt_no hlt (by unfold okAt; rw [HD.out, hnb, Nat.add_sub_cancel, HDq.out, hls]; simp) HL.out)
                clear HR hnb hget hgetq hce h0 HD HDq
                generalize ps[q] = t at *
                generalize ps[q + 1] = s at *
                go_wp2_with fail
                refine HIs.out.mono ?_
                rintro e w' ⟨rfl, rfl⟩
                go_wp2
                go_ret
                exact ⟨by rw [hr.out]; rfl, HB0.out⟩
        · have hin : i = ps.length := by omega
          have HNo := Lib.hid (ok_all HO.out hin)
          clear HO hin hi
          go_wp2
          clear hlt
          go_loopw [46] (fun ti wr => ∃ j : Nat, ti = .int .i64 j ∧ j ≤ fs.length ∧ Hid (AllAbout ps (fs.take j)) ∧ Hid (Below W.heap.size W wr)) (fun ti _ => fs.length - (intOf ti).toNat)
          case atStart => exact ⟨0, rfl, by omega, fun f hf => by simp at hf, Below.refl _ _⟩
          case round =>
            obtain ⟨j, rfl, hj, HO, HW⟩ := hrel
            have HBr := Lib.hid (HB0.out.trans (HW.out.mono HB0.out.size))
            by_cases hlj : j < fs.length
            · have hji : (j : Int) < (fs.length : Int) := by omega
              obtain ⟨b0, o0, rfl, hb, hce⟩ := HFc.out (by omega)
              have hfj : fs[j]? = some fs[j] := List.getElem?_eq_getElem hlj
              have hm : fs[j] ∈ fs := List.getElem_mem hlj
              obtain ⟨g1, g2, g3, g4⟩ := hce j _ hfj
              replace g1 := below_cell HBr.out g1
              replace g2 := below_cell HBr.out g2
              replace g3 := below_cell HBr.out g3
              replace g4 := below_cell HBr.out g4
              have HT := Lib.hid (show fs.take (j + 1) = fs.take j ++ [fs[j]] by rw [List.take_add_one, hfj]; rfl)
              have HA := Lib.hid (fun w' h1 => about_any (.slice A ps.length c) ps fs[j] w' h1)
              have HNo2 := Lib.hid (fun q => about_no hm q HL.out)
              clear hce hfj hm z0 z1
              unfold faA at HA
              generalize fs[j] = f at *
              obtain ⟨k, a, b, t⟩ := f
              simp only at g1 g2 g3 g4 HA
              have k0 := (HY.out.below HY.out.lt HW.out).alloc (.cells #[.int .i64 k, .string a, .string b, .int .i64 t] 76)
              have z0 := k0.cell 0 _ rfl
              have z1 := k0.cell 1 _ rfl
              clear k0
              go_wp2_with fail
              have HWa := Lib.hid (HW.out.alloc HW.out.size (.cells #[.int .i64 k, .string a, .string b, .int .i64 t] 76))
              clear z0 z1 g1 g2 g3 g4
              generalize wr.alloc (.cells #[.int .i64 k, .string a, .string b, .int .i64 t] 76) = wa at *
              refine (HA.out wa (HN.out.people.below (HB0.out.trans (HWa.out.mono HB0.out.size)))).mono ?_
              rintro e w2 ⟨rfl, hb2⟩
              have HW2 := Lib.hid (HWa.out.trans (hb2.mono HWa.out.size))
              have HBw := Lib.hid (HB0.out.trans (HW2.out.mono HB0.out.size))
              clear hb2
              cases hq : aboutB ps ⟨k, a, b, t⟩ with
              | false =>
                have hr := HR 100 (HNo2.out hq)
                clear HR hq
                go_wp2
                go_ret
                exact ⟨by rw [hr.out]; rfl, HBw.out⟩
              | true =>
                have HQ := Lib.hid hq
                clear hq
                go_wp2
                go_roundw
                case rel =>
                  refine ⟨j + 1, by go_num, by omega, ?_, HW2.out⟩
                  show AllAbout ps (fs.take (j + 1))
                  rw [HT.out]
                  intro f hf
                  rcases List.mem_append.1 hf with q | q
                  · exact HO.out f q
                  · rw [List.mem_singleton.1 q]; exact HQ.out
                case measure => simp [intOf]; omega
            · have hjn : j = fs.length := by omega
              have hr := HR 0 (check_yes HL.out HNo.out (by have := HO.out; rw [hjn, List.take_length] at this; exact this))
              clear HR hjn hj HO
              go_wp2
              go_ret
              exact ⟨by rw [hr.out]; rfl, HBr.out⟩
end

section
open Go Go.RowKit Go.Shelf
attribute [local go_sem] Oper.semAt_some

/-- A contract met with what it answers known. -/
theorem check_is {A : Option Addr} {n c : Nat} {F : Option Addr} {m d : Nat} {ps : List ByteArray} {fs : List Fa} {r : Int} (hr : checkF ps fs = r) (w : World) (h : NetC w A n c F m d ps fs) (hs : Short ps) :
    Calls Tryz.prog 56 #[.agg #[.slice A n c, .slice F m d]] w fun e w' => e = .returned (.int .i64 r) ∧ Below w.heap.size w w' := by
  subst hr
  exact check_any A n c F m d ps fs w h hs
def netA (A : Option Addr) (n c : Nat) (F : Option Addr) (m d : Nat) : Value := .agg #[.slice A n c, .slice F m d]
def consF (ps : List ByteArray) (fs : List Fa) : Bool := decide (checkF ps fs = 0) && (solveF ps fs).isSome
set_option maxHeartbeats 1000000 in
theorem consistent_bad (r : Int) (hr : r = 3 ∨ r = 100) (A : Option Addr) (n c : Nat) (F : Option Addr) (m d : Nat) (ps : List ByteArray) (fs : List Fa) (w : World) (h : NetC w A n c F m d ps fs) (hs : Short ps) (hc : checkF ps fs = r) :
    Calls Tryz.prog 38 #[.agg #[.slice A n c, .slice F m d]] w fun e w' => e = .returned (.tuple #[.bool false, .int .i64 r]) ∧ Below w.heap.size w w' := by
  have hb0 := below_alloc' w (.cells #[.slice A n c, .slice F m d] 25)
  have HK := Lib.hid (check_is hc _ (h.below hb0) hs)
  clear h hs hc
  rcases hr with rfl | rfl
  all_goals
    go_enter Tryz.func38, Tryz.ntmps38
    go_wp2_with fail
    refine HK.out.mono ?_
    rintro e w1 ⟨rfl, hb1⟩
    have HB := Lib.hid (hb0.trans (hb1.mono hb0.size))
    clear hb0 hb1
    go_wp2
    go_ret2
    exact ⟨rfl, HB.out⟩
set_option maxHeartbeats 1000000 in
theorem consistent_good (A : Option Addr) (n c : Nat) (F : Option Addr) (m d : Nat) (ps : List ByteArray) (fs : List Fa) (w : World) (h : NetC w A n c F m d ps fs) (hs : Short ps) (hc : checkF ps fs = 0) (hp : ps.length ≤ 24) (hf : AllAbout ps fs) :
    Calls Tryz.prog 38 #[.agg #[.slice A n c, .slice F m d]] w fun e w' => e = .returned (.tuple #[.bool (solveF ps fs).isSome, .int .i64 0]) ∧ Below w.heap.size w w' := by
  have hb0 := below_alloc' w (.cells #[.slice A n c, .slice F m d] 25)
  have y0 := Cel.new w 25 #[.slice A n c, .slice F m d]
  have HK := Lib.hid (check_is hc _ (h.below hb0) hs)
  have HN := Lib.hid h
  have HS := Lib.hid (fun w' h' => solve_any A n c F m d ps fs w' h' hp hf)
  clear h hs hc hf
  go_enter Tryz.func38, Tryz.ntmps38
  go_wp2_with fail
  refine HK.out.mono ?_
  rintro e w1 ⟨rfl, hb1⟩
  have HB := Lib.hid (hb0.trans (hb1.mono hb0.size))
  have y1 := y0.below y0.lt hb1
  have z0 := y1.cell 0 _ rfl
  have z1 := y1.cell 1 _ rfl
  clear hb0 hb1 y0 y1
  go_wp2_with fail
  refine (HS.out w1 (HN.out.below HB.out)).mono ?_
  rintro e w2 ⟨hb2, h2⟩
  have HB2 := Lib.hid (HB.out.trans (hb2.mono HB.out.size))
  clear hb2 z0 z1 HS
  rcases h2 with ⟨hq, rfl⟩ | ⟨D, B, vs, hq, rfl, _, _, _⟩
  all_goals
    have HQ := Lib.hid hq
    clear hq
    go_wp2
    go_ret2
    exact ⟨by rw [HQ.out]; rfl, HB2.out⟩
/-- Consistent, of any network. -/
theorem consistent_any (A : Option Addr) (n c : Nat) (F : Option Addr) (m d : Nat) (ps : List ByteArray) (fs : List Fa) (w : World) (h : NetC w A n c F m d ps fs) (hs : Short ps) :
    Calls Tryz.prog 38 #[.agg #[.slice A n c, .slice F m d]] w fun e w' => e = .returned (.tuple #[.bool (consF ps fs), .int .i64 (checkF ps fs)]) ∧ Below w.heap.size w w' := by
  unfold consF
  rcases checkF_cases ps fs with hc | hc | ⟨hc, hp, _, _, hf⟩
  · have := consistent_bad 3 (.inl rfl) A n c F m d ps fs w h hs hc
    rw [hc]
    exact this
  · have := consistent_bad 100 (.inr rfl) A n c F m d ps fs w h hs hc
    rw [hc]
    exact this
  · have := consistent_good A n c F m d ps fs w h hs hc hp hf
    rw [hc]
    exact this
/-- The error of names that are to be people. -/
def allN (ps ns : List ByteArray) : Int := if ns.all (memB ps) then 0 else 2
/-- What checkNames answers. -/
def namedF (ps : List ByteArray) (fs : List Fa) (ns : List ByteArray) : Int := if checkF ps fs ≠ 0 then checkF ps fs else allN ps ns
set_option maxHeartbeats 1000000 in
theorem checkNames_bad (r : Int) (hr : r = 3 ∨ r = 100) (A : Option Addr) (n c : Nat) (F : Option Addr) (m d : Nat) (ps : List ByteArray) (fs : List Fa) (v : Value) (w : World) (h : NetC w A n c F m d ps fs) (hs : Short ps) (hc : checkF ps fs = r) :
    Calls Tryz.prog 58 #[.agg #[.slice A n c, .slice F m d], v] w fun e w' => e = .returned (.int .i64 r) ∧ Below w.heap.size w w' := by
  have hb0 := below_alloc' w (.cells #[.slice A n c, .slice F m d] 25)
  have HK := Lib.hid (check_is hc _ (h.below hb0) hs)
  clear h hs hc
  rcases hr with rfl | rfl
  all_goals
    go_enter Tryz.func58, Tryz.ntmps58
    go_wp2_with fail
    refine HK.out.mono ?_
    rintro e w1 ⟨rfl, hb1⟩
    have HB := Lib.hid (hb0.trans (hb1.mono hb0.size))
    clear hb0 hb1
    go_wp2
    go_ret
    exact ⟨rfl, HB.out⟩
set_option maxHeartbeats 1000000 in
theorem checkNames_good (A : Option Addr) (n c : Nat) (F : Option Addr) (m d : Nat) (ps : List ByteArray) (fs : List Fa) (v : Value) (ns : List ByteArray) (w : World) (h : NetC w A n c F m d ps fs) (hs : Short ps) (hv : Sl w 1 v (namesV ns)) (hc : checkF ps fs = 0) :
    Calls Tryz.prog 58 #[.agg #[.slice A n c, .slice F m d], v] w fun e w' => e = .returned (.int .i64 (allN ps ns)) ∧ Below w.heap.size w w' := by
  have hb0 := below_alloc' w (.cells #[.slice A n c, .slice F m d] 25)
  have y0 := Cel.new w 25 #[.slice A n c, .slice F m d]
  have HK := Lib.hid (check_is hc _ (h.below hb0) hs)
  have HN := Lib.hid h
  obtain ⟨V, k, C, rfl, hl, hkc, hcm, hcl⟩ := hv.open2 (by decide)
  rw [namesV_length] at hl
  obtain rfl : k = ns.length := by omega
  have HCl := Lib.hid hcl
  clear h hs hc hcl hv hl
  go_enter Tryz.func58, Tryz.ntmps58
  go_wp2_with fail
  refine HK.out.mono ?_
  rintro e w1 ⟨rfl, hb1⟩
  have HB := Lib.hid (hb0.trans (hb1.mono hb0.size))
  have y1 := y0.below y0.lt hb1
  have z0 := y1.cell 0 _ rfl
  have z1 := y1.cell 1 _ rfl
  clear hb0 hb1 y0 y1
  go_wp2
  go_loop [15] (fun ti => ∃ i : Nat, ti = .int .i64 i ∧ i ≤ ns.length ∧ Hid (∀ j s, j < i → ns[j]? = some s → memB ps s = true)) (fun ti => ns.length - (intOf ti).toNat)
  case atStart => exact ⟨0, rfl, by omega, fun j s hj => absurd hj (Nat.not_lt_zero _)⟩
  case round =>
    obtain ⟨i, rfl, hi, HO⟩ := hrel
    by_cases hlt : i < ns.length
    · have hii : (i : Int) < (ns.length : Int) := by omega
      obtain ⟨b, o, rfl, hb, hce⟩ := HCl.out (by omega)
      have hget : ns[i]? = some ns[i] := List.getElem?_eq_getElem hlt
      have c1 := below_cell HB.out (hce i (.string ns[i]) (by simp [namesV, hget]))
      have HG := Lib.hid hget
      have HM := Lib.hid (List.getElem_mem hlt)
      have HCo := Lib.hid (contains_any (.slice A n c) ps ns[i] w1 (HN.out.people.below HB.out))
      clear hget hce
      generalize ns[i] = s at *
      cases hm : memB ps s with
      | false =>
        rw [hm] at HCo
        have HR := Lib.hid (show allN ps ns = 2 by unfold allN; rw [if_neg]; rw [List.all_eq_true]; intro q; have := q s HM.out; rw [hm] at this; cases this)
        clear hm
        go_wp2_with fail
        refine HCo.out.mono ?_
        rintro e w' ⟨rfl, rfl⟩
        go_wp2
        go_ret
        exact ⟨by rw [HR.out]; rfl, HB.out⟩
      | true =>
        rw [hm] at HCo
        have HR := Lib.hid hm
        clear hm
        go_wp2_with fail
        refine HCo.out.mono ?_
        rintro e w' ⟨rfl, rfl⟩
        go_wp2
        refine ⟨⟨i + 1, by go_num, by omega, fun j t hj ht => ?_⟩, by simp [intOf]; omega⟩
        rcases Nat.lt_succ_iff_lt_or_eq.1 hj with q | q
        · exact HO.out j t q ht
        · rw [q, HG.out] at ht
          cases ht
          exact HR.out
    · have HR := Lib.hid (show allN ps ns = 0 by
        unfold allN
        rw [if_pos]
        rw [List.all_eq_true]
        intro s hs
        obtain ⟨j, hj, e⟩ := List.mem_iff_getElem.1 hs
        exact HO.out j s (by omega) (by rw [List.getElem?_eq_getElem hj, e]))
      go_wp2
      go_ret
      exact ⟨by rw [HR.out]; rfl, HB.out⟩
theorem checkNames_any (A : Option Addr) (n c : Nat) (F : Option Addr) (m d : Nat) (ps : List ByteArray) (fs : List Fa) (v : Value) (ns : List ByteArray) (w : World) (h : NetC w A n c F m d ps fs) (hs : Short ps) (hv : Sl w 1 v (namesV ns)) :
    Calls Tryz.prog 58 #[.agg #[.slice A n c, .slice F m d], v] w fun e w' => e = .returned (.int .i64 (namedF ps fs ns)) ∧ Below w.heap.size w w' := by
  unfold namedF
  rcases checkF_cases ps fs with hc | hc | ⟨hc, hp, _, _, hf⟩
  · have := checkNames_bad 3 (.inl rfl) A n c F m d ps fs v w h hs hc
    rw [hc]
    exact this
  · have := checkNames_bad 100 (.inr rfl) A n c F m d ps fs v w h hs hc
    rw [hc]
    exact this
  · have := checkNames_good A n c F m d ps fs v ns w h hs hv hc
    rw [hc]
    exact this
end
end Go.Proofs.YtdmcopjbckelmaaGreatDoor
