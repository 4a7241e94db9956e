/- Plain: the reference's bounds while they are under way, and how they lie in memory. No condition. Walks of the reference: conditions, follows. Conditions: those stated. -/
import Derived.Test.YtdmcopjbckelmaaGreatDoorZR1
import Derived.Test.YtdmcopjbckelmaaGreatDoorZG1
namespace Go.Proofs.YtdmcopjbckelmaaGreatDoor
section
open Go Go.RowKit Go.Shelf

/-- The cells of the reference's bounds, as far as the years go. -/
def Ls (n : Nat) (vs : Array Value) (M : Mat) : Prop := vs.size = 2401 ∧ ∀ i k, i < n → k < n → vs[i * 49 + k]? = some (.int .i64 (M i k))
theorem Ls.put {n : Nat} {vs : Array Value} {M E : Mat} (h : Ls n vs M) (hn : n ≤ 49) {r c : Nat} (hr : r < n) (hc : c < n) {x : Int} (hE : ∀ i k, i < n → k < n → E i k = if i = r ∧ k = c then x else M i k) :
    Ls n (vs.setIfInBounds (r * 49 + c) (.int .i64 x)) E := by
  obtain ⟨h1, h3⟩ := h
  refine ⟨by simp [h1], fun i k hi hk => ?_⟩
  rw [Array.getElem?_setIfInBounds, hE i k hi hk]
  by_cases e : i = r ∧ k = c
  · obtain ⟨rfl, rfl⟩ := e
    rw [if_pos rfl, if_pos (by omega), if_pos ⟨rfl, rfl⟩]
  · rw [if_neg (by omega), if_neg e]
    exact h3 i k hi hk
theorem Ls.same {n : Nat} {vs : Array Value} {M E : Mat} (h : Ls n vs M) (hE : ∀ i k, i < n → k < n → E i k = M i k) : Ls n vs E :=
  ⟨h.1, fun i k hi hk => by rw [hE i k hi hk]; exact h.2 i k hi hk⟩
/-- The bounds while they are made. -/
def iniAt (r c : Nat) : Mat := fun i k => if i < r then (if i = k then 0 else 1099511627776) else if i = r ∧ k < c then 1099511627776 else 0
theorem iniAt_set (r c i k : Nat) : iniAt r (c + 1) i k = if i = r ∧ k = c then 1099511627776 else iniAt r c i k := by
  unfold iniAt
  by_cases e : i = r ∧ k = c
  · obtain ⟨rfl, rfl⟩ := e
    rw [if_neg (by omega), if_pos (by omega), if_pos ⟨rfl, rfl⟩]
  · rw [if_neg e]
    by_cases q : i < r
    · rw [if_pos q, if_pos q]
    · rw [if_neg q, if_neg q]
      by_cases q2 : i = r ∧ k < c
      · rw [if_pos (by omega), if_pos q2]
      · rw [if_neg (by omega), if_neg q2]
theorem iniAt_row {n r i k : Nat} (hi : i < n) (hk : k < n) : iniAt (r + 1) 0 i k = if i = r ∧ k = r then 0 else iniAt r n i k := by
  unfold iniAt
  by_cases e : i = r ∧ k = r
  · obtain ⟨rfl, rfl⟩ := e
    rw [if_pos (by omega), if_pos rfl, if_pos ⟨rfl, rfl⟩]
  · rw [if_neg e]
    by_cases q : i < r
    · rw [if_pos (by omega), if_pos q]
    · rw [if_neg q]
      by_cases q2 : i = r
      · subst q2
        rw [if_pos (by omega), if_neg (by omega), if_pos ⟨rfl, hk⟩]
      · rw [if_neg (by omega), if_neg (by omega), if_neg (by omega)]
theorem iniAt_end {n i k : Nat} (hi : i < n) (hk : k < n) : M0 n i k = iniAt n 0 i k := by
  unfold M0 iniAt
  rw [if_pos ⟨hi, hk⟩, if_pos hi]
/-- A round under way. -/
def fwAt (M : Mat) (j r c : Nat) : Mat := fun i k => if i < r ∨ (i = r ∧ k < c) then fwS M j i k else M i k
theorem fwAt_here (M : Mat) (j r c : Nat) : fwAt M j r c r c = M r c := by unfold fwAt; rw [if_neg (by omega)]
theorem fwAt_zero (M : Mat) (j : Nat) : fwAt M j 0 0 = M := by funext i k; unfold fwAt; rw [if_neg (by omega)]
theorem fwAt_row {n j : Nat} {M : Mat} (h : FwG n j M) (hj : j < n) (r c k : Nat) : fwAt M j r c j k = M j k := by
  unfold fwAt
  split
  · exact fwS_row h hj k
  · rfl
theorem fwAt_col {n j : Nat} {M : Mat} (h : FwG n j M) (hj : j < n) (r c i : Nat) : fwAt M j r c i j = M i j := by
  unfold fwAt
  split
  · exact fwS_col h hj i
  · rfl
theorem fwAt_set (M : Mat) (j r c i k : Nat) : fwAt M j r (c + 1) i k = if i = r ∧ k = c then fwS M j r c else fwAt M j r c i k := by
  unfold fwAt
  by_cases e : i = r ∧ k = c
  · obtain ⟨rfl, rfl⟩ := e
    rw [if_pos (by omega), if_pos ⟨rfl, rfl⟩]
  · rw [if_neg e]
    by_cases q : i < r ∨ (i = r ∧ k < c)
    · rw [if_pos q, if_pos (by omega)]
    · rw [if_neg q, if_neg (by omega)]
theorem fwAt_next {n : Nat} (M : Mat) (j r i k : Nat) (hk : k < n) : fwAt M j (r + 1) 0 i k = fwAt M j r n i k := by
  unfold fwAt
  by_cases q : i < r + 1
  · rw [if_pos (by omega), if_pos (by omega)]
  · rw [if_neg (by omega), if_neg (by omega)]
theorem fwAt_end {n : Nat} (M : Mat) (j i k : Nat) (hi : i < n) : fwS M j i k = fwAt M j n 0 i k := by
  unfold fwAt
  rw [if_pos (by omega)]
theorem fwS_min (M : Mat) (j i k : Nat) : fwS M j i k = min (M i k) (M i j + M j k) := by
  unfold fwS
  split <;> omega
theorem minM_min (M : Mat) (b : Bo) (i k : Nat) : minM M b i k = if i = b.x ∧ k = b.y then min (M b.x b.y) b.by_ else M i k := by
  unfold minM
  by_cases e : i = b.x ∧ k = b.y
  · obtain ⟨rfl, rfl⟩ := e
    rw [if_pos (show b.x = b.x ∧ b.y = b.y from ⟨rfl, rfl⟩)]
    split
    · next q => have := q.2.2; omega
    · next q =>
      have : ¬ b.by_ < M b.x b.y := fun z => q ⟨rfl, rfl, z⟩
      omega
  · rw [if_neg e, if_neg (fun q => e ⟨q.1, q.2.1⟩)]
theorem minL_snoc (M : Mat) (l : List Bo) (b : Bo) : minL M (l ++ [b]) = minM (minL M l) b := by rw [minL_append]; rfl
/-- How far the entries may lie after so many rounds. -/
def Far (n j : Nat) (M : Mat) : Prop := ∀ i k, i < n → k < n → -(4000 * 2 ^ j) ≤ M i k ∧ M i k ≤ 1099511627776
theorem Far.next {n j : Nat} {M : Mat} (h : Far n j M) (hj : j < n) : Far n (j + 1) (fwS M j) := by
  intro i k hi hk
  have := fwS_bd n hj (B := 4000 * 2 ^ j) (T := 1099511627776) (by have := Int.pow_pos (n := 2) (m := j) (by decide); omega) h i k hi hk
  rw [Int.pow_succ]
  omega
theorem Far.small {n j : Nat} {M : Mat} (h : Far n j M) (hj : j ≤ 49) {i k : Nat} (hi : i < n) (hk : k < n) : -2251799813685248000 ≤ M i k ∧ M i k ≤ 1099511627776 := by
  have h1 := h i k hi hk
  have h2 : (2 : Int) ^ j ≤ 2 ^ 49 := by
    have := Nat.pow_le_pow_right (n := 2) (by decide) hj
    exact_mod_cast this
  have h3 : (2 : Int) ^ 49 = 562949953421312 := by decide
  omega
theorem far_start {ps : List ByteArray} {fs : List Fa} (hp : ps.length ≤ 24) (h : AllAbout ps fs) : Far (1 + 2 * ps.length) 0 (minL (M0 (1 + 2 * ps.length)) (refL ps fs)) := by
  intro i k hi hk
  refine minL_bd (fun b hb => (refL_in hp h b hb).2.2) ?_ ?_
  all_goals
    unfold M0
    rw [if_pos ⟨hi, hk⟩]
    split <;> omega
/-- What one round of the reference finds. -/
theorem fwN_bad {n j : Nat} {M M' : Mat} (h : fwN n M j = some M') {i : Nat} (hi : i < n) (hneg : fwS M' j i i < 0) : fwN n M (j + 1) = none := by
  unfold fwN
  rw [h]
  simp only
  rw [if_pos]
  rw [List.any_eq_true]
  exact ⟨i, List.mem_range.2 hi, decide_eq_true hneg⟩
theorem fwN_fine {n j : Nat} {M M' : Mat} (h : fwN n M j = some M') (hg : ∀ i, i < n → 0 ≤ fwS M' j i i) : fwN n M (j + 1) = some (fwS M' j) := by
  unfold fwN
  rw [h]
  simp only
  rw [if_neg]
  rw [Bool.not_eq_true, List.any_eq_false]
  intro i hi
  have := hg i (List.mem_range.1 hi)
  simp
  omega
theorem fwN_stop {n j m : Nat} {M : Mat} (h : fwN n M j = none) (hm : j ≤ m) : fwN n M m = none := by
  induction m with
  | zero =>
    rw [show j = 0 by omega] at h
    exact h
  | succ m ih =>
    rcases Nat.lt_or_ge m j with q | q
    · rw [show m + 1 = j by omega]; exact h
    · unfold fwN
      rw [ih q]
/-- The bounds of the first so many people. -/
def bornR (k : Nat) : List Bo := ((List.range k).flatMap bornL).map refB
theorem bornR_succ {k : Nat} (hk : k < 24) : bornR (k + 1) = bornR k ++ [⟨1 + 2 * k, 0, 4000⟩, ⟨0, 1 + 2 * k, 4000⟩, ⟨1 + 2 * k, 1 + 2 * k + 1, 0⟩, ⟨1 + 2 * k + 1, 1 + 2 * k, 100⟩] := by
  unfold bornR
  rw [List.range_succ, List.flatMap_append, List.map_append]
  congr 1
  have h1 : rs (2 * k) = 1 + 2 * k := by unfold rs; split <;> omega
  have h2 : rs (2 * k + 1) = 1 + 2 * k + 1 := by unfold rs; split <;> omega
  have h3 : rs 48 = 0 := by unfold rs; rw [if_pos rfl]
  simp [bornL, refB, h1, h2, h3]
theorem bornR_length (k : Nat) : (bornR k).length = 4 * k := by
  unfold bornR
  rw [List.length_map, List.length_flatMap]
  simp only [bornL, List.length_cons, List.length_nil]
  induction k with
  | zero => rfl
  | succ k ih => rw [List.range_succ, List.map_append, List.sum_append, ih]; simp; omega
theorem refL_take_succ {ps : List ByteArray} {fs : List Fa} {j : Nat} {f : Fa} (h : fs[j]? = some f) : refL ps (fs.take (j + 1)) = refL ps (fs.take j) ++ (boundsF ps f).map refB := by
  unfold refL netL
  rw [List.take_add_one, h]
  simp
theorem refL_nil (ps : List ByteArray) : refL ps [] = bornR ps.length := by
  unfold refL netL bornR
  simp
theorem boundsF_len (ps : List ByteArray) (f : Fa) : (boundsF ps f).length ≤ 3 := by
  unfold boundsF
  repeat' split
  all_goals simp
theorem refL_len {ps : List ByteArray} {fs : List Fa} : (refL ps fs).length ≤ 4 * ps.length + 3 * fs.length := by
  unfold refL netL
  rw [List.length_map, List.length_append]
  have h1 := bornR_length ps.length
  unfold bornR at h1
  rw [List.length_map] at h1
  have h2 : ∀ l : List Fa, (l.flatMap (boundsF ps)).length ≤ 3 * l.length := by
    intro l
    induction l with
    | nil => simp
    | cons f l ih =>
      rw [List.flatMap_cons, List.length_append, List.length_cons]
      have := boundsF_len ps f
      omega
  have := h2 fs
  omega
end

section
open Go Go.RowKit Go.Shelf
attribute [local go_sem] Oper.semAt_some

theorem rs_even {p : Nat} (h : p < 24) : ((rs (2 * p) : Nat) : Int) = 1 + 2 * (p : Int) := by unfold rs; split <;> omega
theorem rs_odd {p : Nat} : ((rs (2 * p + 1) : Nat) : Int) = 1 + 2 * (p : Int) + 1 := by unfold rs; split <;> omega
theorem rs_org : ((rs 48 : Nat) : Int) = 0 := by unfold rs; rw [if_pos rfl]; rfl
def refBs (ps : List ByteArray) (f : Fa) : List Bo := (boundsF ps f).map refB
/-- What conditions does. -/
def CondP (l : List Bo) (w : World) (e : Ending) (w' : World) : Prop := ∃ v, e = .returned v ∧ SlB w' w.heap.size 3 v (bosV l) ∧ Below w.heap.size w w'
set_option maxRecDepth 100000 in
set_option maxHeartbeats 2000000 in
theorem cond1 (v : Value) (ps : List ByteArray) (a b : ByteArray) (t : Int) (w : World) (h : Sl w 1 v (namesV ps)) (hs : a ∈ ps) (hs2 : b ∈ ps) (hp : ps.length ≤ 24) :
    Calls Tryz.prog 107 #[v, .agg #[.int .i64 1, .string a, .string b, .int .i64 t]] w (CondP (refBs ps ⟨1, a, b, t⟩) w) := by
  obtain ⟨A, n, c, rfl, h⟩ := h.shape
  have HB := Lib.hid (below_alloc' w (.cells #[.int .i64 1, .string a, .string b, .int .i64 t] 76))
  have HA := Lib.hid (h.below HB.out)
  have y0 := Cel.new w 76 #[.int .i64 1, .string a, .string b, .int .i64 t]
  have z1 := y0.cell 1 _ rfl
  have z2 := y0.cell 2 _ rfl
  have z3 := y0.cell 3 _ rfl
  have hpa := posF_lt hs
  have KA := Lib.hid (rAt_in _ HA.out (atF_mem hs))
  have hpb := posF_lt hs2
  have KB := Lib.hid (rAt_in _ HA.out (atF_mem hs2))
  have ea := rs_even (p := posF ps a) (by omega)
  have eb := rs_even (p := posF ps b) (by omega)
  have ob := rs_odd (p := posF ps b)
  have HL := Lib.hid (show bosV (refBs ps ⟨1, a, b, t⟩) = [.int .i64 (1 + 2 * ((posF ps b : Nat) : Int)), .int .i64 (1 + 2 * ((posF ps a : Nat) : Int)), .int .i64 (-12), .int .i64 (1 + 2 * ((posF ps a : Nat) : Int)), .int .i64 (1 + 2 * ((posF ps b : Nat) : Int)), .int .i64 (80), .int .i64 (1 + 2 * ((posF ps a : Nat) : Int)), .int .i64 (1 + 2 * ((posF ps b : Nat) : Int) + 1), .int .i64 (1)] by unfold refBs boundsF; simp [refB, bosV, boV, ea, eb, ob])
  clear h hs hs2 y0 ea eb ob
  generalize posF ps a = pa at *
  generalize posF ps b = pb at *
  go_enter Tryz.func107, Tryz.ntmps107
  go_wp2_with fail
  refine KA.out.mono ?_
  rintro e w' ⟨rfl, rfl⟩
  go_wp2_with fail
  refine KB.out.mono ?_
  rintro e w' ⟨rfl, rfl⟩
  go_wp2
  go_ret
  refine ⟨_, rfl, sl_end 3 (by simp) ?_ rfl (by decide) (by omega), HB.out.alloc HB.out.size _⟩
  rw [HL.out]
set_option maxRecDepth 100000 in
set_option maxHeartbeats 2000000 in
theorem cond2 (v : Value) (ps : List ByteArray) (a b : ByteArray) (t : Int) (w : World) (h : Sl w 1 v (namesV ps)) (hs : a ∈ ps) (hs2 : b ∈ ps) (hp : ps.length ≤ 24) :
    Calls Tryz.prog 107 #[v, .agg #[.int .i64 2, .string a, .string b, .int .i64 t]] w (CondP (refBs ps ⟨2, a, b, t⟩) w) := by
  obtain ⟨A, n, c, rfl, h⟩ := h.shape
  have HB := Lib.hid (below_alloc' w (.cells #[.int .i64 2, .string a, .string b, .int .i64 t] 76))
  have HA := Lib.hid (h.below HB.out)
  have y0 := Cel.new w 76 #[.int .i64 2, .string a, .string b, .int .i64 t]
  have z1 := y0.cell 1 _ rfl
  have z2 := y0.cell 2 _ rfl
  have z3 := y0.cell 3 _ rfl
  have hpa := posF_lt hs
  have KA := Lib.hid (rAt_in _ HA.out (atF_mem hs))
  have hpb := posF_lt hs2
  have KB := Lib.hid (rAt_in _ HA.out (atF_mem hs2))
  have ea := rs_even (p := posF ps a) (by omega)
  have eb := rs_even (p := posF ps b) (by omega)
  have HL := Lib.hid (show bosV (refBs ps ⟨2, a, b, t⟩) = [.int .i64 (1 + 2 * ((posF ps a : Nat) : Int)), .int .i64 (1 + 2 * ((posF ps b : Nat) : Int)), .int .i64 (40), .int .i64 (1 + 2 * ((posF ps b : Nat) : Int)), .int .i64 (1 + 2 * ((posF ps a : Nat) : Int)), .int .i64 (40)] by unfold refBs boundsF; simp [refB, bosV, boV, ea, eb])
  clear h hs hs2 y0 ea eb
  generalize posF ps a = pa at *
  generalize posF ps b = pb at *
  go_enter Tryz.func107, Tryz.ntmps107
  go_wp2_with fail
  refine KA.out.mono ?_
  rintro e w' ⟨rfl, rfl⟩
  go_wp2_with fail
  refine KB.out.mono ?_
  rintro e w' ⟨rfl, rfl⟩
  go_wp2
  go_ret
  refine ⟨_, rfl, sl_end 2 (by simp) ?_ rfl (by decide) (by omega), HB.out.alloc HB.out.size _⟩
  rw [HL.out]
set_option maxRecDepth 100000 in
set_option maxHeartbeats 2000000 in
theorem cond3 (v : Value) (ps : List ByteArray) (a b : ByteArray) (t : Int) (w : World) (h : Sl w 1 v (namesV ps)) (hs : a ∈ ps) (hs2 : b ∈ ps) (hp : ps.length ≤ 24) :
    Calls Tryz.prog 107 #[v, .agg #[.int .i64 3, .string a, .string b, .int .i64 t]] w (CondP (refBs ps ⟨3, a, b, t⟩) w) := by
  obtain ⟨A, n, c, rfl, h⟩ := h.shape
  have HB := Lib.hid (below_alloc' w (.cells #[.int .i64 3, .string a, .string b, .int .i64 t] 76))
  have HA := Lib.hid (h.below HB.out)
  have y0 := Cel.new w 76 #[.int .i64 3, .string a, .string b, .int .i64 t]
  have z1 := y0.cell 1 _ rfl
  have z2 := y0.cell 2 _ rfl
  have z3 := y0.cell 3 _ rfl
  have hpa := posF_lt hs
  have KA := Lib.hid (rAt_in _ HA.out (atF_mem hs))
  have hpb := posF_lt hs2
  have KB := Lib.hid (rAt_in _ HA.out (atF_mem hs2))
  have ea := rs_even (p := posF ps a) (by omega)
  have eb := rs_even (p := posF ps b) (by omega)
  have HL := Lib.hid (show bosV (refBs ps ⟨3, a, b, t⟩) = [.int .i64 (1 + 2 * ((posF ps a : Nat) : Int)), .int .i64 (1 + 2 * ((posF ps b : Nat) : Int)), .int .i64 (0)] by unfold refBs boundsF; simp [refB, bosV, boV, ea, eb])
  clear h hs hs2 y0 ea eb
  generalize posF ps a = pa at *
  generalize posF ps b = pb at *
  go_enter Tryz.func107, Tryz.ntmps107
  go_wp2_with fail
  refine KA.out.mono ?_
  rintro e w' ⟨rfl, rfl⟩
  go_wp2_with fail
  refine KB.out.mono ?_
  rintro e w' ⟨rfl, rfl⟩
  go_wp2
  go_ret
  refine ⟨_, rfl, sl_end 1 (by simp) ?_ rfl (by decide) (by omega), HB.out.alloc HB.out.size _⟩
  rw [HL.out]
set_option maxRecDepth 100000 in
set_option maxHeartbeats 2000000 in
theorem cond4 (v : Value) (ps : List ByteArray) (a b : ByteArray) (t : Int) (w : World) (h : Sl w 1 v (namesV ps)) (hs : a ∈ ps) (ht : -1000 ≤ t ∧ t ≤ 1000) (hp : ps.length ≤ 24) :
    Calls Tryz.prog 107 #[v, .agg #[.int .i64 4, .string a, .string b, .int .i64 t]] w (CondP (refBs ps ⟨4, a, b, t⟩) w) := by
  obtain ⟨A, n, c, rfl, h⟩ := h.shape
  have HB := Lib.hid (below_alloc' w (.cells #[.int .i64 4, .string a, .string b, .int .i64 t] 76))
  have HA := Lib.hid (h.below HB.out)
  have y0 := Cel.new w 76 #[.int .i64 4, .string a, .string b, .int .i64 t]
  have z1 := y0.cell 1 _ rfl
  have z2 := y0.cell 2 _ rfl
  have z3 := y0.cell 3 _ rfl
  have hpa := posF_lt hs
  have KA := Lib.hid (rAt_in _ HA.out (atF_mem hs))
  obtain ⟨ht1, ht2⟩ := ht
  obtain ⟨j, hj⟩ : ∃ j, atF ps b = j := ⟨_, rfl⟩
  have hj1 : -1 ≤ j := by rw [← hj]; unfold atF; split <;> omega
  have hj2 : j ≤ 24 := by rw [← hj]; unfold atF; split <;> omega
  have KB := Lib.hid (rAt_in _ HA.out hj)
  clear hj
  have ea := rs_even (p := posF ps a) (by omega)
  have HL := Lib.hid (show bosV (refBs ps ⟨4, a, b, t⟩) = [.int .i64 (1 + 2 * ((posF ps a : Nat) : Int)), .int .i64 (0), .int .i64 (t), .int .i64 (0), .int .i64 (1 + 2 * ((posF ps a : Nat) : Int)), .int .i64 (-t)] by unfold refBs boundsF; simp [refB, bosV, boV, ea, rs_org])
  clear h hs y0 ea
  generalize posF ps a = pa at *
  go_enter Tryz.func107, Tryz.ntmps107
  go_wp2_with fail
  refine KA.out.mono ?_
  rintro e w' ⟨rfl, rfl⟩
  go_wp2_with fail
  refine KB.out.mono ?_
  rintro e w' ⟨rfl, rfl⟩
  go_wp2
  go_ret
  refine ⟨_, rfl, sl_end 2 (by simp) ?_ rfl (by decide) (by omega), HB.out.alloc HB.out.size _⟩
  rw [HL.out]
set_option maxRecDepth 100000 in
set_option maxHeartbeats 2000000 in
theorem cond5 (v : Value) (ps : List ByteArray) (a b : ByteArray) (t : Int) (w : World) (h : Sl w 1 v (namesV ps)) (hs : a ∈ ps) (ht : -1000 ≤ t ∧ t ≤ 1000) (hp : ps.length ≤ 24) :
    Calls Tryz.prog 107 #[v, .agg #[.int .i64 5, .string a, .string b, .int .i64 t]] w (CondP (refBs ps ⟨5, a, b, t⟩) w) := by
  obtain ⟨A, n, c, rfl, h⟩ := h.shape
  have HB := Lib.hid (below_alloc' w (.cells #[.int .i64 5, .string a, .string b, .int .i64 t] 76))
  have HA := Lib.hid (h.below HB.out)
  have y0 := Cel.new w 76 #[.int .i64 5, .string a, .string b, .int .i64 t]
  have z1 := y0.cell 1 _ rfl
  have z2 := y0.cell 2 _ rfl
  have z3 := y0.cell 3 _ rfl
  have hpa := posF_lt hs
  have KA := Lib.hid (rAt_in _ HA.out (atF_mem hs))
  obtain ⟨ht1, ht2⟩ := ht
  obtain ⟨j, hj⟩ : ∃ j, atF ps b = j := ⟨_, rfl⟩
  have hj1 : -1 ≤ j := by rw [← hj]; unfold atF; split <;> omega
  have hj2 : j ≤ 24 := by rw [← hj]; unfold atF; split <;> omega
  have KB := Lib.hid (rAt_in _ HA.out hj)
  clear hj
  have ea := rs_even (p := posF ps a) (by omega)
  have oa := rs_odd (p := posF ps a)
  have HL := Lib.hid (show bosV (refBs ps ⟨5, a, b, t⟩) = [.int .i64 (1 + 2 * ((posF ps a : Nat) : Int)), .int .i64 (0), .int .i64 (t - 10), .int .i64 (0), .int .i64 (1 + 2 * ((posF ps a : Nat) : Int) + 1), .int .i64 (-t)] by unfold refBs boundsF; simp [refB, bosV, boV, ea, oa, rs_org])
  clear h hs y0 ea oa
  generalize posF ps a = pa at *
  go_enter Tryz.func107, Tryz.ntmps107
  go_wp2_with fail
  refine KA.out.mono ?_
  rintro e w' ⟨rfl, rfl⟩
  go_wp2_with fail
  refine KB.out.mono ?_
  rintro e w' ⟨rfl, rfl⟩
  go_wp2
  go_ret
  refine ⟨_, rfl, sl_end 2 (by simp) ?_ rfl (by decide) (by omega), HB.out.alloc HB.out.size _⟩
  rw [HL.out]
set_option maxRecDepth 100000 in
set_option maxHeartbeats 2000000 in
theorem cond6 (v : Value) (ps : List ByteArray) (a b : ByteArray) (t : Int) (w : World) (h : Sl w 1 v (namesV ps)) (hs : a ∈ ps) (ht : -1000 ≤ t ∧ t ≤ 1000) (hp : ps.length ≤ 24) :
    Calls Tryz.prog 107 #[v, .agg #[.int .i64 6, .string a, .string b, .int .i64 t]] w (CondP (refBs ps ⟨6, a, b, t⟩) w) := by
  obtain ⟨A, n, c, rfl, h⟩ := h.shape
  have HB := Lib.hid (below_alloc' w (.cells #[.int .i64 6, .string a, .string b, .int .i64 t] 76))
  have HA := Lib.hid (h.below HB.out)
  have y0 := Cel.new w 76 #[.int .i64 6, .string a, .string b, .int .i64 t]
  have z1 := y0.cell 1 _ rfl
  have z2 := y0.cell 2 _ rfl
  have z3 := y0.cell 3 _ rfl
  have hpa := posF_lt hs
  have KA := Lib.hid (rAt_in _ HA.out (atF_mem hs))
  obtain ⟨ht1, ht2⟩ := ht
  obtain ⟨j, hj⟩ : ∃ j, atF ps b = j := ⟨_, rfl⟩
  have hj1 : -1 ≤ j := by rw [← hj]; unfold atF; split <;> omega
  have hj2 : j ≤ 24 := by rw [← hj]; unfold atF; split <;> omega
  have KB := Lib.hid (rAt_in _ HA.out hj)
  clear hj
  have ea := rs_even (p := posF ps a) (by omega)
  have oa := rs_odd (p := posF ps a)
  have HL := Lib.hid (show bosV (refBs ps ⟨6, a, b, t⟩) = [.int .i64 (1 + 2 * ((posF ps a : Nat) : Int)), .int .i64 (0), .int .i64 (t), .int .i64 (0), .int .i64 (1 + 2 * ((posF ps a : Nat) : Int) + 1), .int .i64 (-t)] by unfold refBs boundsF; simp [refB, bosV, boV, ea, oa, rs_org])
  clear h hs y0 ea oa
  generalize posF ps a = pa at *
  go_enter Tryz.func107, Tryz.ntmps107
  go_wp2_with fail
  refine KA.out.mono ?_
  rintro e w' ⟨rfl, rfl⟩
  go_wp2_with fail
  refine KB.out.mono ?_
  rintro e w' ⟨rfl, rfl⟩
  go_wp2
  go_ret
  refine ⟨_, rfl, sl_end 2 (by simp) ?_ rfl (by decide) (by omega), HB.out.alloc HB.out.size _⟩
  rw [HL.out]
set_option maxRecDepth 100000 in
set_option maxHeartbeats 2000000 in
theorem cond7 (v : Value) (ps : List ByteArray) (a b : ByteArray) (t : Int) (w : World) (h : Sl w 1 v (namesV ps)) (hs : a ∈ ps) (ht : -1000 ≤ t ∧ t ≤ 1000) (hp : ps.length ≤ 24) :
    Calls Tryz.prog 107 #[v, .agg #[.int .i64 7, .string a, .string b, .int .i64 t]] w (CondP (refBs ps ⟨7, a, b, t⟩) w) := by
  obtain ⟨A, n, c, rfl, h⟩ := h.shape
  have HB := Lib.hid (below_alloc' w (.cells #[.int .i64 7, .string a, .string b, .int .i64 t] 76))
  have HA := Lib.hid (h.below HB.out)
  have y0 := Cel.new w 76 #[.int .i64 7, .string a, .string b, .int .i64 t]
  have z1 := y0.cell 1 _ rfl
  have z2 := y0.cell 2 _ rfl
  have z3 := y0.cell 3 _ rfl
  have hpa := posF_lt hs
  have KA := Lib.hid (rAt_in _ HA.out (atF_mem hs))
  obtain ⟨ht1, ht2⟩ := ht
  obtain ⟨j, hj⟩ : ∃ j, atF ps b = j := ⟨_, rfl⟩
  have hj1 : -1 ≤ j := by rw [← hj]; unfold atF; split <;> omega
  have hj2 : j ≤ 24 := by rw [← hj]; unfold atF; split <;> omega
  have KB := Lib.hid (rAt_in _ HA.out hj)
  clear hj
  have oa := rs_odd (p := posF ps a)
  have HL := Lib.hid (show bosV (refBs ps ⟨7, a, b, t⟩) = [.int .i64 (1 + 2 * ((posF ps a : Nat) : Int) + 1), .int .i64 (0), .int .i64 (t)] by unfold refBs boundsF; simp [refB, bosV, boV, oa, rs_org])
  clear h hs y0 oa
  generalize posF ps a = pa at *
  go_enter Tryz.func107, Tryz.ntmps107
  go_wp2_with fail
  refine KA.out.mono ?_
  rintro e w' ⟨rfl, rfl⟩
  go_wp2_with fail
  refine KB.out.mono ?_
  rintro e w' ⟨rfl, rfl⟩
  go_wp2
  go_ret
  refine ⟨_, rfl, sl_end 1 (by simp) ?_ rfl (by decide) (by omega), HB.out.alloc HB.out.size _⟩
  rw [HL.out]
theorem cond_any (v : Value) (ps : List ByteArray) (f : Fa) (w : World) (h : Sl w 1 v (namesV ps)) (hp : ps.length ≤ 24) (hf : aboutB ps f = true) :
    Calls Tryz.prog 107 #[v, faA f] w (CondP (refBs ps f) w) := by
  obtain ⟨k, a, b, t⟩ := f
  obtain ⟨h1, h2, h3, h4⟩ := aboutB_iff.1 hf
  simp only at h1 h2 h3 h4
  unfold faA
  simp only
  have hk : k = 1 ∨ k = 2 ∨ k = 3 ∨ k = 4 ∨ k = 5 ∨ k = 6 ∨ k = 7 := by omega
  rcases hk with rfl | rfl | rfl | rfl | rfl | rfl | rfl
  · exact cond1 v ps a b t w h h2 (h3 (by decide)).2.1 hp
  · exact cond2 v ps a b t w h h2 (h3 (by decide)).2.1 hp
  · exact cond3 v ps a b t w h h2 (h3 (by decide)).2.1 hp
  · exact cond4 v ps a b t w h h2 (h4 (by decide)).2 hp
  · exact cond5 v ps a b t w h h2 (h4 (by decide)).2 hp
  · exact cond6 v ps a b t w h h2 (h4 (by decide)).2 hp
  · exact cond7 v ps a b t w h h2 (h4 (by decide)).2 hp
/-- Do the bounds imply the conditions of a fact? -/
def folB (M : Mat) (ps : List ByteArray) (f : Fa) : Bool := (refBs ps f).all fun b => decide (M b.x b.y ≤ b.by_)
theorem bosV_len (l : List Bo) : (bosV l).length = l.length * 3 := by
  induction l with
  | nil => rfl
  | cons x l ih =>
    have e : bosV (x :: l) = boV x ++ bosV l := rfl
    rw [e, List.length_append, ih]
    simp [boV]
    omega
/-- The cells of a list of bounds. -/
theorem bosV_cell {w : World} {v : Value} {l : List Bo} (h : Sl w 3 v (bosV l)) : ∃ A c, v = .slice A l.length c ∧ l.length ≤ c ∧ (c : Int) ≤ 9223372036854775807 ∧ (0 < l.length → ∃ b o, A = some ⟨b, o, none⟩ ∧ b < w.heap.size ∧ ∀ k q, l[k]? = some q →
    w.cell? ⟨b, o + k * 3, none⟩ = some (.int .i64 q.x) ∧ w.cell? ⟨b, o + k * 3 + 1, none⟩ = some (.int .i64 q.y) ∧ w.cell? ⟨b, o + k * 3 + 2, none⟩ = some (.int .i64 q.by_)) := by
  obtain ⟨A, n, c, rfl, hl, hc, hcm, hcl⟩ := h.open2 (by decide)
  rw [bosV_len] at hl
  obtain rfl : n = l.length := by omega
  refine ⟨A, c, rfl, hc, hcm, fun hn => ?_⟩
  obtain ⟨b, o, rfl, hb, hce⟩ := hcl (by omega)
  refine ⟨b, o, rfl, hb, fun k q hk => ?_⟩
  obtain ⟨g1, g2, g3⟩ := bosV_get hk
  have a1 := hce _ _ g1
  have a2 := hce _ _ g2
  have a3 := hce _ _ g3
  rw [← Nat.add_assoc] at a2 a3
  exact ⟨a1, a2, a3⟩
theorem fol_no {M : Mat} {ps : List ByteArray} {f : Fa} {i : Nat} {q : Bo} (h : (refBs ps f)[i]? = some q) (hn : q.by_ < M q.x q.y) : folB M ps f = false := by
  unfold folB
  rw [List.all_eq_false]
  exact ⟨q, List.mem_of_getElem? h, by simpa using hn⟩
theorem fol_yes {M : Mat} {ps : List ByteArray} {f : Fa} (h : ∀ j q, j < (refBs ps f).length → (refBs ps f)[j]? = some q → M q.x q.y ≤ q.by_) : folB M ps f = true := by
  unfold folB
  rw [List.all_eq_true]
  intro q hq
  obtain ⟨j, hj, e⟩ := List.mem_iff_getElem.1 hq
  exact decide_eq_true (h j q hj (by rw [List.getElem?_eq_getElem hj, e]))
theorem refBs_in {ps : List ByteArray} {f : Fa} (hf : aboutB ps f = true) {q : Bo} (hq : q ∈ refBs ps f) : q.x < 1 + 2 * ps.length ∧ q.y < 1 + 2 * ps.length := by
  obtain ⟨b, hb, rfl⟩ := List.mem_map.1 hq
  obtain ⟨h1, h2⟩ := boundsF_in hf b hb
  exact ⟨rs_lt h1, rs_lt h2⟩
set_option maxRecDepth 100000 in
set_option maxHeartbeats 4000000 in
theorem follows_any (B : Nat) (M : Mat) (vs : Array Value) (v : Value) (ps : List ByteArray) (f : Fa) (w : World) (hC : Cel w B 150 vs) (hV : Ls (1 + 2 * ps.length) vs M) (h : Sl w 1 v (namesV ps)) (hp : ps.length ≤ 24) (hf : aboutB ps f = true) :
    Calls Tryz.prog 66 #[.pointer (some ⟨B, 0, none⟩), v, faA f] w fun e w' => e = .returned (.bool (folB M ps f)) ∧ Below w.heap.size w w' := by
  have HK := Lib.hid (fun w' h' => cond_any v ps f w' h' hp hf)
  have HIn := Lib.hid (fun q hq => refBs_in hf (q := q) hq)
  have HNo := Lib.hid (fun i q h hn => fol_no (M := M) (ps := ps) (f := f) (i := i) (q := q) h hn)
  have HYes := Lib.hid (fun h => fol_yes (M := M) (ps := ps) (f := f) h)
  have HV := Lib.hid hV
  have HC := Lib.hid hC
  have HS := Lib.hid h
  obtain ⟨A, n, c, rfl, _⟩ := h.shape
  have HR : ∀ r, folB M ps f = r → Hid (folB M ps f = r) := fun r h => Lib.hid h
  unfold faA at *
  obtain ⟨k, a, b, t⟩ := f
  simp only at HK
  generalize refBs ps ⟨k, a, b, t⟩ = L at *
  have HB0 := Lib.hid (below_alloc' w (.cells #[.int .i64 k, .string a, .string b, .int .i64 t] 76))
  clear hC hV h hf
  simp only
  go_enter Tryz.func66, Tryz.ntmps66
  go_wp2_with fail
  refine (HK.out _ (HS.out.below HB0.out)).mono ?_
  rintro e w1 ⟨v1, rfl, hl, hb1⟩
  obtain ⟨A1, c1, rfl, h1, h2, h3⟩ := bosV_cell hl.1
  have HL := Lib.hid h3
  have HB1 := Lib.hid (HB0.out.trans (hb1.mono HB0.out.size))
  clear hb1 hl h3 HK
  go_wp2
  go_loopw [8] (fun ti wr => ∃ i : Nat, ti = .int .i64 i ∧ i ≤ L.length ∧ Hid (∀ j q, j < i → L[j]? = some q → M q.x q.y ≤ q.by_) ∧ Hid (Below w1.heap.size w1 wr)) (fun ti _ => L.length - (intOf ti).toNat)
  case atStart => exact ⟨0, rfl, by omega, fun j q hj => absurd hj (Nat.not_lt_zero _), Below.refl _ _⟩
  case round =>
    obtain ⟨i, rfl, hi, HO, HW⟩ := hrel
    by_cases hlt : i < L.length
    · have hii : (i : Int) < (L.length : Int) := by omega
      have hi0 : (0 : Int) ≤ (i : Int) := by omega
      obtain ⟨b0, o0, rfl, hb, hce⟩ := HL.out (by omega)
      have hq : L[i]? = some L[i] := List.getElem?_eq_getElem hlt
      obtain ⟨g1, g2, g3⟩ := hce i _ hq
      replace g1 := below_cell HW.out g1
      replace g2 := below_cell HW.out g2
      replace g3 := below_cell HW.out g3
      obtain ⟨hx, hy⟩ := HIn.out _ (List.getElem_mem hlt)
      have g4 := below_cell HW.out (below_cell HB1.out (HC.out.cell _ _ (HV.out.2 _ _ hx hy)))
      have HQ := Lib.hid hq
      have x0 : (0 : Int) ≤ ((L[i].x : Nat) : Int) := by omega
      have y0 : (0 : Int) ≤ ((L[i].y : Nat) : Int) := by omega
      have x9 : ((L[i].x : Nat) : Int) < 49 := by omega
      have y9 : ((L[i].y : Nat) : Int) < 49 := by omega
      clear hq hce hx hy
      generalize hb' : L[i] = bo at *
      clear hb'
      obtain ⟨x, y, z⟩ := bo
      simp only at *
      by_cases hle : M x y ≤ z
      · have hd : decide (z < M x y) = false := decide_eq_false (by omega)
        have HLe := Lib.hid hle
        clear hle
        go_upto_region 5 with fail
        go_quiet (fail)
        go_wp2
        go_roundw
        case rel =>
          refine ⟨i + 1, by go_num, by omega, fun j q hj hjq => ?_, below_drewN HW.out _⟩
          rcases Nat.lt_succ_iff_lt_or_eq.1 hj with e | e
          · exact HO.out j q e hjq
          · rw [e, HQ.out] at hjq
            cases hjq
            exact HLe.out
        case measure => simp [intOf]; omega
      · have hd : decide (z < M x y) = true := decide_eq_true (by omega)
        have hr := HR false (HNo.out i _ HQ.out (by simp only; omega))
        clear HR hle
        go_upto_region 5 with fail
        go_quiet (fail)
        go_wp2
        go_ret
        exact ⟨by rw [hr.out]; rfl, below_drewN (HB1.out.trans (HW.out.mono HB1.out.size)) _⟩
    · have hr := HR true (HYes.out (fun j q hj hq => HO.out j q (by omega) hq))
      clear HR
      go_wp2
      go_ret
      exact ⟨by rw [hr.out]; rfl, HB1.out.trans (HW.out.mono HB1.out.size)⟩
end
end Go.Proofs.YtdmcopjbckelmaaGreatDoor
