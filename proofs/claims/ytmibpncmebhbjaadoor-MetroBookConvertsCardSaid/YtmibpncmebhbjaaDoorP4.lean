/- metro.Standard: the six ladders; lists of ladders and bridges in memory. The statement's own helpers: EqInts, ratio, counts, bridges. metro's books in memory; index, between, one-off readers. The factor between two ladders of a book; along a chain. -/
import Derived.Test.YtmibpncmebhbjaaDoorP3
namespace Go.Proofs.YtmibpncmebhbjaaDoor
section
open Go Go.RowKit Go.Shelf

/-- A ladder: its name, its units. -/
structure La where
  nm : ByteArray
  us : List Un
  hn : (nm.size : Int) ≤ 9223372036854775807
def ladCells (ps : List (La × Value)) : List Value := ps.flatMap fun p => [.string p.1.nm, p.2]
theorem ladCells_length (ps : List (La × Value)) : (ladCells ps).length = ps.length * 2 := by
  induction ps with
  | nil => rfl
  | cons u us ih => simp only [ladCells, List.flatMap_cons, List.length_append] at ih ⊢; rw [ih]; simp; omega
theorem ladCells_get {ps : List (La × Value)} {k : Nat} (hk : k < ps.length) : (ladCells ps)[k * 2]? = some (.string ps[k].1.nm) ∧ (ladCells ps)[k * 2 + 1]? = some ps[k].2 := by
  induction ps generalizing k with
  | nil => simp at hk
  | cons u us ih =>
    have e : ladCells (u :: us) = .string u.1.nm :: u.2 :: ladCells us := rfl
    cases k with
    | zero => rw [e]; simp
    | succ k =>
      have := ih (k := k) (by simpa using hk)
      rw [e, show (k + 1) * 2 = k * 2 + 1 + 1 from by omega]
      simpa using this
/-- A slice of ladders. -/
def LadsV (w : World) (v : Value) (ls : List La) : Prop := ∃ ps : List (La × Value), ps.map (·.1) = ls ∧ Sl w 2 v (ladCells ps) ∧ ∀ p ∈ ps, Sl w 2 p.2 (unitsV p.1.us)
theorem LadsV.below {w w' : World} {v : Value} {ls : List La} (h : LadsV w v ls) (hb : Below w.heap.size w w') : LadsV w' v ls := by
  obtain ⟨ps, e, h1, h2⟩ := h
  exact ⟨ps, e, h1.below hb, fun p hp => (h2 p hp).below hb⟩
def mkUn (s : ByteArray) (f : Int) (hs : (s.size : Int) ≤ 9223372036854775807 := by decide) (hf : Bd f := by unfold Bd; decide) : Un := ⟨s, f, hs, hf⟩
theorem Cel.at (W : World) (n : Nat) (t : TypeId) (vs : Array Value) (h : n = W.heap.size) : Cel (W.alloc (.cells vs t)) n t vs := by subst h; exact Cel.new W t vs
set_option maxRecDepth 20000
def lad_count : La := { nm := ⟨#[99, 111, 117, 110, 116]⟩, us := [mkUn ⟨#[110, 48, 49]⟩ 1, mkUn ⟨#[110, 49, 52]⟩ 10, mkUn ⟨#[110, 51, 52]⟩ 6, mkUn ⟨#[110, 52, 56]⟩ 10, mkUn ⟨#[110, 52, 53]⟩ 6, mkUn ⟨#[110, 53, 48]⟩ 10], hn := by decide }
def lad_bisex : La := { nm := ⟨#[98, 105, 115, 101, 120]⟩, us := [mkUn ⟨#[110, 48, 49]⟩ 1, mkUn ⟨#[110, 49, 52]⟩ 10, mkUn ⟨#[110, 51, 52]⟩ 6, mkUn ⟨#[110, 53, 49]⟩ 2, mkUn ⟨#[110, 53, 52]⟩ 10, mkUn ⟨#[110, 53, 54]⟩ 6], hn := by decide }
def lad_grain : La := { nm := ⟨#[103, 114, 97, 105, 110]⟩, us := [mkUn ⟨#[110, 51, 57]⟩ 1, mkUn ⟨#[110, 48, 49]⟩ 5, mkUn ⟨#[110, 49, 52]⟩ 6, mkUn ⟨#[110, 52, 53]⟩ 10, mkUn ⟨#[110, 52, 56]⟩ 3, mkUn ⟨#[110, 51, 52]⟩ 10], hn := by decide }
def lad_area : La := { nm := ⟨#[97, 114, 101, 97]⟩, us := [mkUn ⟨#[110, 48, 49]⟩ 1, mkUn ⟨#[110, 50, 50]⟩ 6, mkUn ⟨#[110, 49, 52]⟩ 3, mkUn ⟨#[110, 53, 48]⟩ 10, mkUn ⟨#[110, 52, 53]⟩ 6], hn := by decide }
def lad_time : La := { nm := ⟨#[116, 105, 109, 101]⟩, us := [mkUn ⟨#[110, 48, 56]⟩ 1, mkUn ⟨#[110, 49, 56]⟩ 10, mkUn ⟨#[110, 48, 49]⟩ 3, mkUn ⟨#[110, 53, 55]⟩ 12], hn := by decide }
def lad_weight : La := { nm := ⟨#[119, 101, 105, 103, 104, 116]⟩, us := [mkUn ⟨#[115, 122, 101]⟩ 1, mkUn ⟨#[115, 122, 101, 117]⟩ 10, mkUn ⟨#[103, 105, 110]⟩ 18, mkUn ⟨#[103, 105, 110, 117]⟩ 10, mkUn ⟨#[109, 97, 110, 97]⟩ 6, mkUn ⟨#[109, 97, 110, 97, 117]⟩ 10, mkUn ⟨#[103, 117, 110]⟩ 6], hn := by decide }
def stdL : List La := [lad_count, lad_bisex, lad_grain, lad_area, lad_time, lad_weight]

set_option maxRecDepth 100000 in
set_option maxHeartbeats 1000000 in
theorem standard_any (w : World) : Calls Tryd.prog 83 #[] w fun e w' => ∃ v, e = .returned v ∧ LadsV w' v stdL ∧ Below w.heap.size w w' := by
  go_enter Tryd.func83, Tryd.ntmps83
  go_wp2
  go_ret
  refine ⟨_, rfl, ⟨[(lad_count, .slice (some ⟨w.heap.size, 0, none⟩) 6 6), (lad_bisex, .slice (some ⟨w.heap.size + 1, 0, none⟩) 6 6), (lad_grain, .slice (some ⟨w.heap.size + 1 + 1, 0, none⟩) 6 6), (lad_area, .slice (some ⟨w.heap.size + 1 + 1 + 1, 0, none⟩) 5 5), (lad_time, .slice (some ⟨w.heap.size + 1 + 1 + 1 + 1, 0, none⟩) 4 4), (lad_weight, .slice (some ⟨w.heap.size + 1 + 1 + 1 + 1 + 1, 0, none⟩) 7 7)], rfl, ?_, ?_⟩, ?_⟩
  · exact Cel.sl (t := 33) (Cel.at _ _ _ _ (by simp)) rfl rfl (Nat.le_refl _) (by decide)
  · simp only [List.forall_mem_cons]
    refine ⟨?_, ?_, ?_, ?_, ?_, ?_, fun _ h => absurd h (List.not_mem_nil)⟩
    all_goals exact Cel.sl (t := 78) (by repeat (first | exact Cel.at _ _ _ _ (by simp) | apply Cel.alloc)) rfl rfl (Nat.le_refl _) (by decide)
  · repeat (first | exact Below.refl _ _ | refine Below.alloc ?_ (by first | (simp; done) | (simp; omega)) _)
end

section
open Go Go.RowKit Go.Shelf

set_option maxRecDepth 100000 in
set_option maxHeartbeats 1000000 in
theorem eqInts_any (a b : Value) (xs ys : List Int) (w : World) (ha : Sl w 1 a (xs.map (Value.int .i64))) (hb : Sl w 1 b (ys.map (Value.int .i64))) :
    Calls Tryd.prog 55 #[a, b] w fun e w' => e = .returned (.bool (decide (xs = ys))) ∧ Below w.heap.size w w' := by
  obtain ⟨A, c, rfl, hlc, hcm, hcell⟩ := ha.open1
  obtain ⟨A', c', rfl, hlc', hcm', hcell'⟩ := hb.open1
  simp only [List.length_map] at *
  go_enter Tryd.func55, Tryd.ntmps55
  by_cases hl : xs.length = ys.length
  · have b1 : ((xs.length : Int) == (ys.length : Int)) = true := beq_iff_eq.2 (by omega)
    have HC := Lib.hid hcell
    have HC' := Lib.hid hcell'
    clear hcell hcell'
    go_wp2
    go_loopw [5] (fun t wr => ∃ k : Nat, t = .int .i64 k ∧ k ≤ xs.length ∧ (∀ j (h : j < k) (h1 : j < xs.length) (h2 : j < ys.length), xs[j] = ys[j]) ∧ Below w.heap.size w wr) (fun t _ => xs.length - (intOf t).toNat)
    case atStart => exact ⟨0, rfl, by omega, fun j h => by omega, Below.refl _ _⟩
    case round =>
      obtain ⟨k, rfl, hk, heq, hB⟩ := hrel
      have HE := Lib.hid heq
      clear heq
      by_cases hlt : k < xs.length
      · have hlt' : k < ys.length := by omega
        obtain ⟨ad, rfl, h1⟩ := HC.out k _ (by rw [List.getElem?_map, List.getElem?_eq_getElem hlt]; rfl)
        obtain ⟨ad', rfl, h2⟩ := HC'.out k _ (by rw [List.getElem?_map, List.getElem?_eq_getElem hlt']; rfl)
        have e1 := below_cell hB h1
        have e2 := below_cell hB h2
        clear h1 h2
        obtain ⟨x, hx⟩ : ∃ x, xs[k] = x := ⟨_, rfl⟩
        obtain ⟨y, hy⟩ : ∃ y, ys[k] = y := ⟨_, rfl⟩
        rw [hx] at e1
        rw [hy] at e2
        have HX := Lib.hid hx
        have HY := Lib.hid hy
        clear hx hy
        by_cases hxy : x = y
        · have b2 : (x == y) = true := beq_iff_eq.2 hxy
          have HXY := Lib.hid hxy
          clear hxy
          go_wp2
          go_quiet (fail)
          go_wp2
          go_roundw
          case rel =>
            refine ⟨k + 1, by simp, hlt, fun j hj h3 h4 => ?_, below_drewN hB _⟩
            by_cases e : j = k
            · subst e; rw [HX.out, HY.out, HXY.out]
            · exact HE.out j (by omega) h3 h4
          case measure => simp [intOf]; omega
        · have b2 : (x == y) = false := beq_eq_false_iff_ne.2 hxy
          have HR := Lib.hid (show decide (xs = ys) = false by
            refine decide_eq_false (fun e => hxy ?_)
            subst e
            rw [← HX.out, ← HY.out])
          clear hxy
          go_wp2
          go_quiet (fail)
          go_wp2
          go_ret
          exact ⟨by rw [HR.out]; rfl, below_drewN hB _⟩
      · have HR := Lib.hid (show decide (xs = ys) = true from decide_eq_true (List.ext_getElem hl fun j h1 h2 => HE.out j (by omega) h1 h2))
        go_wp2
        go_ret
        exact ⟨by rw [HR.out]; rfl, hB⟩
  · have b1 : ((xs.length : Int) == (ys.length : Int)) = false := beq_eq_false_iff_ne.2 (by omega)
    have HR := Lib.hid (show decide (xs = ys) = false from decide_eq_false (fun e => hl (by rw [e])))
    go_wp2
    go_ret
    exact ⟨by rw [HR.out]; rfl, Below.refl _ _⟩

theorem LadsV.open {w : World} {v : Value} {ls : List La} (h : LadsV w v ls) : ∃ A c, v = .slice A ls.length c ∧ ls.length ≤ c ∧ (c : Int) ≤ 9223372036854775807 ∧
    ∀ k (hk : k < ls.length), ∃ b o A' c', A = some ⟨b, o, none⟩ ∧ b < w.heap.size ∧ w.cell? ⟨b, o + k * 2, none⟩ = some (.string ls[k].nm) ∧ w.cell? ⟨b, o + k * 2 + 1, none⟩ = some (.slice A' ls[k].us.length c') ∧ Sl w 2 (.slice A' ls[k].us.length c') (unitsV ls[k].us) := by
  obtain ⟨ps, rfl, h1, h2⟩ := h
  obtain ⟨A, n, c, rfl, hm, hmc, hcm, hcell⟩ := h1.open2 (by decide)
  have hn : n = ps.length := by rw [ladCells_length] at hm; omega
  subst hn
  refine ⟨A, c, by rw [List.length_map], by rw [List.length_map]; exact hmc, hcm, fun k hk => ?_⟩
  rw [List.length_map] at hk
  obtain ⟨b, o, rfl, hb, hce⟩ := hcell (by omega)
  obtain ⟨g0, g1⟩ := ladCells_get hk
  have hp := h2 ps[k] (List.getElem_mem _)
  obtain ⟨A', n', c', e, hm', _⟩ := hp.open2 (by decide)
  have hn' : n' = ps[k].1.us.length := by rw [unitsV_length] at hm'; omega
  subst hn'
  have e0 := hce _ _ g0
  have e1 := hce _ _ g1
  rw [← Nat.add_assoc] at e1
  rw [e] at e1 hp
  exact ⟨b, o, A', c', rfl, hb, by rw [List.getElem_map]; exact e0, by simp only [List.getElem_map]; exact e1, by simp only [List.getElem_map]; exact hp⟩

set_option maxRecDepth 100000 in
set_option maxHeartbeats 1000000 in
theorem counts_any (i : Nat) (n : Int) (w : World) (hi : i < 6) (hn2 : n ≤ 9223372036854775807) :
    Calls Tryd.prog 92 #[.int .i64 i, .int .i64 n] w fun e w' => ∃ v, e = .returned v ∧ Sl w' 1 v ((splitL (stdL[i]'hi).nm (stdL[i]'hi).us n).map (Value.int .i64)) ∧ Below w.heap.size w w' := by
  have hst := (standard_any w).mono (R' := fun e w1 => ∃ A c b o A' c', e = .returned (.slice A 6 c) ∧ (c : Int) ≤ 9223372036854775807 ∧ 6 ≤ c ∧ A = some ⟨b, o, none⟩ ∧ w1.cell? ⟨b, o + i * 2, none⟩ = some (.string (stdL[i]'hi).nm) ∧ w1.cell? ⟨b, o + i * 2 + 1, none⟩ = some (.slice A' (stdL[i]'hi).us.length c') ∧ Sl w1 2 (.slice A' (stdL[i]'hi).us.length c') (unitsV (stdL[i]'hi).us) ∧ Below w.heap.size w w1)
    (fun e w1 h => by
      obtain ⟨v, rfl, hv, hb⟩ := h
      obtain ⟨A, c, rfl, h6, hc, hk⟩ := hv.open
      obtain ⟨b, o, A', c', e, _, e0, e1, hs⟩ := hk i hi
      exact ⟨A, c, b, o, A', c', rfl, hc, h6, e, e0, e1, hs, hb⟩)
  have hnm := (stdL[i]'hi).hn
  generalize stdL[i]'hi = la at *
  have d0 : decide ((6 : Int) ≤ (i : Int)) = false := decide_eq_false (by omega)
  go_enter Tryd.func92, Tryd.ntmps92
  go_wp2_with (first | (go_at_call 83; refine hst.mono ?_; rintro e w1 ⟨A, c, b, o, A', c', rfl, hc, h6, rfl, e0, e1, hs, hb1⟩; have HS := Lib.hid hs; clear hs) | (go_at_call 53; refine (Split_any la.nm hnm A' c' la.us n w1 HS.out hn2).mono ?_; rintro e w2 ⟨v, rfl, hv, hb2⟩))
  go_ret
  exact ⟨_, rfl, hv, below_then hb1 hb2⟩
end

section
open Go Go.RowKit Go.Shelf

/-- A book: its ladders; for each one its group's label, and the factor to that group's first. -/
structure St where
  ls : List La
  grp : List Nat
  fac : List Rat
def cnt (grp : List Nat) (k : Nat) : Nat := grp.countP (fun g => g == grp.getD k 0)
def St.lim (st : St) (k : Nat) : Nat := 2 ^ (cnt st.grp k) - 2
theorem St.lim_le {st : St} (h : st.grp.length ≤ 32) (k : Nat) : st.lim k ≤ 4294967296 := by
  unfold St.lim cnt
  have h1 : st.grp.countP (fun g => g == st.grp.getD k 0) ≤ 32 := Nat.le_trans List.countP_le_length h
  have h2 : 2 ^ (st.grp.countP (fun g => g == st.grp.getD k 0)) ≤ 2 ^ 32 := Nat.pow_le_pow_right (by decide) h1
  omega
def placeM : List La → Nat → List Kv
  | [], _ => []
  | l :: ls, i => (l.nm, .int .i64 i) :: placeM ls (i + 1)
theorem placeM_append (ls : List La) (l : La) (i : Nat) : placeM (ls ++ [l]) i = placeM ls i ++ [(l.nm, .int .i64 (i + ls.length : Nat))] := by
  induction ls generalizing i with
  | nil => rfl
  | cons x ls ih => simp only [List.cons_append, placeM, ih, List.length_cons]; rw [show i + 1 + ls.length = i + (ls.length + 1) from by omega]
def findL (nm : ByteArray) : List La → Nat → Option Nat
  | [], _ => none
  | l :: ls, i => if nm = l.nm then some i else findL nm ls (i + 1)
theorem findL_lt {nm : ByteArray} {ls : List La} {i k : Nat} (h : findL nm ls i = some k) : i ≤ k ∧ k < i + ls.length := by
  induction ls generalizing i with
  | nil => simp [findL] at h
  | cons l ls ih =>
    unfold findL at h
    split at h
    · simp at h; subst h; simp
    · have := ih h; simp; omega
theorem getM_place (nm : ByteArray) (ls : List La) (i : Nat) : getM (placeM ls i) nm = (findL nm ls i).map (fun k => Value.int .i64 (k : Nat)) := by
  induction ls generalizing i with
  | nil => rfl
  | cons l ls ih =>
    simp only [placeM, getM, findL, List.find?_cons] at ih ⊢
    by_cases e : nm = l.nm
    · simp [e]
    · rw [decide_eq_false e, if_neg e]; exact ih (i + 1)
def facCells (ps : List (Value × Value)) : List Value := ps.flatMap fun p => [p.1, p.2]
theorem facCells_length (ps : List (Value × Value)) : (facCells ps).length = ps.length * 2 := by
  induction ps with
  | nil => rfl
  | cons u us ih => simp only [facCells, List.flatMap_cons, List.length_append] at ih ⊢; rw [ih]; simp; omega
theorem facCells_get {ps : List (Value × Value)} {k : Nat} (hk : k < ps.length) : (facCells ps)[k * 2]? = some ps[k].1 ∧ (facCells ps)[k * 2 + 1]? = some ps[k].2 := by
  induction ps generalizing k with
  | nil => simp at hk
  | cons u us ih =>
    have e : facCells (u :: us) = u.1 :: u.2 :: facCells us := rfl
    cases k with
    | zero => rw [e]; simp
    | succ k =>
      have := ih (k := k) (by simpa using hk)
      rw [e, show (k + 1) * 2 = k * 2 + 1 + 1 from by omega]
      simpa using this
/-- A product in memory that is q. -/
def PV (w : World) (v : Value) (q : Rat) (lim : Nat) : Prop := ∃ U D, Pr w v U D ∧ Red U D q ∧ U.length ≤ lim ∧ D.length ≤ lim
theorem PV.below {w w' : World} {v : Value} {q : Rat} {lim : Nat} (h : PV w v q lim) (hb : Below w.heap.size w w') : PV w' v q lim := by
  obtain ⟨U, D, h1, h2⟩ := h; exact ⟨U, D, h1.below hb, h2⟩
theorem PV.mono {w : World} {v : Value} {q : Rat} {lim lim' : Nat} (h : PV w v q lim) (hl : lim ≤ lim') : PV w v q lim' := by
  obtain ⟨U, D, h1, h2, h3, h4⟩ := h; exact ⟨U, D, h1, h2, by omega, by omega⟩
theorem PV.shape {w : World} {v : Value} {q : Rat} {lim : Nat} (h : PV w v q lim) : ∃ A n c B m d, v = .agg #[.slice A n c, .slice B m d] := by
  obtain ⟨U, D, hp, _⟩ := h
  obtain ⟨A, n, c, B, m, d, e, _⟩ := hp.shape
  exact ⟨A, n, c, B, m, d, e⟩
theorem PV.box {w : World} {b : Nat} {t : TypeId} {v : Value} {q : Rat} {lim : Nat} (h : PV w v q lim) (hb : w.heap[b]? = some (.cells #[.slice none 0 0, .slice none 0 0] t (0, 0))) (x y : Value) : PV ((w.setCell ⟨b, 0, none⟩ x).setCell ⟨b, 1, none⟩ y) v q lim := by
  obtain ⟨U, D, ⟨s1, s2, e, h1, h2⟩, h3⟩ := h
  exact ⟨U, D, ⟨s1, s2, e, h1.box2 hb x y, h2.box2 hb x y⟩, h3⟩
/-- The products of a book. -/
def FacV (w : World) (v : Value) (fac : List Rat) (lim : Nat → Nat) : Prop :=
  ∃ ps : List (Value × Value), Sl w 2 v (facCells ps) ∧ ps.length = fac.length ∧ ∀ k (h : k < ps.length) (h' : k < fac.length), PV w (.agg #[ps[k].1, ps[k].2]) fac[k] (lim k)
theorem FacV.below {w w' : World} {v : Value} {fac : List Rat} {lim : Nat → Nat} (h : FacV w v fac lim) (hb : Below w.heap.size w w') : FacV w' v fac lim := by
  obtain ⟨ps, h1, h2, h3⟩ := h; exact ⟨ps, h1.below hb, h2, fun k h h' => (h3 k h h').below hb⟩
theorem FacV.open {w : World} {v : Value} {fac : List Rat} {lim : Nat → Nat} (h : FacV w v fac lim) : ∃ A c, v = .slice A fac.length c ∧ fac.length ≤ c ∧ (c : Int) ≤ 9223372036854775807 ∧
    ∀ k (hk : k < fac.length), ∃ b o a1 a2, A = some ⟨b, o, none⟩ ∧ b < w.heap.size ∧ w.cell? ⟨b, o + k * 2, none⟩ = some a1 ∧ w.cell? ⟨b, o + k * 2 + 1, none⟩ = some a2 ∧ PV w (.agg #[a1, a2]) fac[k] (lim k) := by
  obtain ⟨ps, h1, h2, h3⟩ := h
  obtain ⟨A, n, c, rfl, hm, hmc, hcm, hcell⟩ := h1.open2 (by decide)
  have hn : n = fac.length := by rw [facCells_length] at hm; omega
  subst hn
  refine ⟨A, c, rfl, hmc, hcm, fun k hk => ?_⟩
  obtain ⟨b, o, rfl, hb, hce⟩ := hcell (by omega)
  obtain ⟨g0, g1⟩ := facCells_get (ps := ps) (k := k) (by omega)
  have e0 := hce _ _ g0
  have e1 := hce _ _ g1
  rw [← Nat.add_assoc] at e1
  exact ⟨b, o, _, _, rfl, hb, e0, e1, h3 k (by omega) hk⟩
def grpV (g : List Nat) : List Value := g.map fun (n : Nat) => Value.int .i64 (n : Int)
/-- A book in memory. -/
structure BookV (w : World) (Bk bm : Nat) (lv gv fv : Value) (st : St) : Prop where
  blk : Cel w Bk 114 #[lv, .map (some bm), gv, fv]
  lads : LadsV w lv st.ls
  place : MapS w bm (placeM st.ls 0)
  grp : Sl w 1 gv (grpV st.grp)
  fac : FacV w fv st.fac st.lim
structure Good (st : St) : Prop where
  grp : st.grp.length = st.ls.length
  fac : st.fac.length = st.ls.length
  few : st.ls.length ≤ 32
  ok : ∀ l ∈ st.ls, checkF l.nm l.us = 0
  lab : ∀ g ∈ st.grp, g < st.ls.length
theorem BookV.below {w w' : World} {Bk bm : Nat} {lv gv fv : Value} {st : St} (h : BookV w Bk bm lv gv fv st) (hb : Below w.heap.size w w') : BookV w' Bk bm lv gv fv st :=
  ⟨h.blk.below h.blk.lt hb, h.lads.below hb, h.place.below h.place.lt hb, h.grp.below hb, h.fac.below hb⟩
def idxI (ls : List La) (nm : ByteArray) : Nat := (findL nm ls 0).getD 0
def idxE (ls : List La) (nm : ByteArray) : Int := needF (findL nm ls 0).isSome 4
theorem idxI_lt {ls : List La} {nm : ByteArray} (h : idxE ls nm = 0) : idxI ls nm < ls.length := by
  unfold idxE at h
  unfold idxI
  cases hf : findL nm ls 0 with
  | none => rw [hf] at h; simp [needF] at h
  | some k => have := findL_lt hf; simp; omega

set_option maxRecDepth 100000 in
set_option maxHeartbeats 1000000 in
theorem index_any (Bk bm : Nat) (lv gv fv : Value) (ls : List La) (nm : ByteArray) (w : World) (hc : Cel w Bk 114 #[lv, .map (some bm), gv, fv]) (hm : MapS w bm (placeM ls 0)) :
    Calls Tryd.prog 101 #[.pointer (some ⟨Bk, 0, none⟩), .string nm] w fun e w' => e = .returned (.tuple #[.int .i64 (idxI ls nm), .int .i64 (idxE ls nm)]) ∧ w = w' := by
  have c1 := hc.cell 1 (.map (some bm)) rfl
  have hlk := hm.lookup (P := Tryd.prog) (t := 111) Tryd.underlying111 Tryd.underlying9 (Tryd.zeroValue3 w) nm true
  rw [getM_place] at hlk
  unfold idxI idxE
  cases hf : findL nm ls 0 with
  | none =>
    rw [hf] at hlk
    simp only [Option.map_none] at hlk
    go_enter Tryd.func101, Tryd.ntmps101
    go_wp2_with (go_at_call 97; refine (need_any _ 4 _).mono ?_; rintro e w2 ⟨rfl, rfl⟩)
    go_ret2
    exact ⟨rfl, rfl⟩
  | some k =>
    rw [hf] at hlk
    simp only [Option.map_some] at hlk
    go_enter Tryd.func101, Tryd.ntmps101
    go_wp2_with (go_at_call 97; refine (need_any _ 4 _).mono ?_; rintro e w2 ⟨rfl, rfl⟩)
    go_ret2
    exact ⟨rfl, rfl⟩
end

section
open Go Go.RowKit Go.Shelf

theorem PV.drew {w : World} {v : Value} {q : Rat} {lim : Nat} (h : PV w v q lim) : PV w.drew v q lim := by
  obtain ⟨U, D, ⟨s1, s2, e, h1, h2⟩, h3⟩ := h
  exact ⟨U, D, ⟨s1, s2, e, h1.drew, h2.drew⟩, h3⟩
theorem below_undrew {a b : World} {n : Nat} (h : Below n a.drew b) : Below n a b := ⟨h.os, h.tape, h.output, h.size, h.block⟩
theorem times_pv (v u : Value) (q q' : Rat) (l l' : Nat) (w : World) (hv : PV w v q l) (hu : PV w u q' l') (hl : l + l' ≤ 17592186044415) :
    Calls Tryd.prog 104 #[v, u] w fun e w' => ∃ r, e = .returned r ∧ Below w.heap.size w w' ∧ PV w' r (q * q') (l + l') := by
  obtain ⟨U, D, h1, h2, h3, h4⟩ := hv
  obtain ⟨U', D', h1', h2', h3', h4'⟩ := hu
  refine (times_any v u U D U' D' w h1 h1' h2.onesU h2.onesD h2'.onesU h2'.onesD (by omega) (by omega)).mono ?_
  rintro e w' ⟨r, X, Y, rfl, hb, hp, hr, hx, hy⟩
  exact ⟨r, rfl, hb, X, Y, hp, by rw [← h2.val, ← h2'.val]; exact hr, by omega, by omega⟩
theorem turned_pv (v : Value) (q : Rat) (l : Nat) (w : World) (hv : PV w v q l) :
    Calls Tryd.prog 125 #[v] w fun e w' => ∃ r, e = .returned r ∧ Below w.heap.size w w' ∧ PV w' r q⁻¹ l := by
  obtain ⟨U, D, h1, h2, h3, h4⟩ := hv
  refine (turned_any v U D w h1).mono ?_
  rintro e w' ⟨r, rfl, hb, hp⟩
  exact ⟨r, rfl, hb, D, U, hp, h2.turned, h4, h3⟩

set_option maxRecDepth 100000 in
set_option maxHeartbeats 1000000 in
theorem between_any (Bk bm : Nat) (lv gv fv : Value) (fac : List Rat) (lim : Nat → Nat) (i j : Nat) (w : World) (hc : Cel w Bk 114 #[lv, .map (some bm), gv, fv]) (hf : FacV w fv fac lim) (hi : i < fac.length) (hj : j < fac.length) (hli : lim i ≤ 4294967296) (hlj : lim j ≤ 4294967296) :
    Calls Tryd.prog 124 #[.pointer (some ⟨Bk, 0, none⟩), .int .i64 i, .int .i64 j] w fun e w' => ∃ r, e = .returned r ∧ Below w.heap.size w w' ∧ PV w' r (fac[i] * fac[j]⁻¹) (lim i + lim j) := by
  obtain ⟨A, c, rfl, hc1, hc2, hk⟩ := hf.open
  obtain ⟨b, o, a1, a2, rfl, hb, e1, e2, hpi⟩ := hk i hi
  obtain ⟨b', o', a3, a4, e, hb', e3, e4, hpj⟩ := hk j hj
  cases e
  generalize fac[i] = qi at *
  generalize fac[j] = qj at *
  obtain ⟨W, hW⟩ : ∃ W, w.alloc (.cells #[.slice none 0 0, .slice none 0 0] 121) = W := ⟨_, rfl⟩
  have hwW : Below w.heap.size w W := by rw [← hW]; exact below_alloc' _ _
  have sW : W.heap.size = w.heap.size + 1 := by rw [← hW]; simp
  have k0 := (hc.below hc.lt hwW).cell 3 (.slice (some ⟨b, o, none⟩) fac.length c) rfl
  have k1 := below_cell hwW e1
  have k2 := below_cell hwW e2
  have k3 := below_cell hwW e3
  have k4 := below_cell hwW e4
  have Y := Cel.new w 121 #[.slice none 0 0, .slice none 0 0]
  rw [hW] at Y
  have HY := Lib.hid Y
  have HPi := Lib.hid (hpi.below hwW)
  have HPj := Lib.hid (hpj.below hwW)
  have HK : Hid (∀ w', Below W.heap.size W w' → w'.cell? ⟨Bk, 3, none⟩ = some (.slice (some ⟨b, o, none⟩) fac.length c) ∧ w'.cell? ⟨b, o + i * 2, none⟩ = some a1 ∧ w'.cell? ⟨b, o + i * 2 + 1, none⟩ = some a2 ∧ w'.cell? ⟨b, o + j * 2, none⟩ = some a3 ∧ w'.cell? ⟨b, o + j * 2 + 1, none⟩ = some a4) := by
    intro w' hb
    exact ⟨below_cell hb k0, below_cell hb k1, below_cell hb k2, below_cell hb k3, below_cell hb k4⟩
  have ne1 : ¬ (w.heap.size = Bk) := by have := hc.lt; omega
  have ne2 : ¬ (w.heap.size = b) := by omega
  have ne3 : ¬ (Bk = w.heap.size) := by have := hc.lt; omega
  have ne4 : ¬ (b = w.heap.size) := by omega
  clear hc hk e1 e2 e3 e4 hpi hpj Y
  go_enter Tryd.func124, Tryd.ntmps124
  go_upto_region 1 with fail
  go_region_held3? (fun w' => w'.cell? ⟨Bk, 3, none⟩ = some (.slice (some ⟨b, o, none⟩) fac.length c) ∧ w'.cell? ⟨b, o + i * 2, none⟩ = some a1 ∧ w'.cell? ⟨b, o + i * 2 + 1, none⟩ = some a2 ∧ w'.cell? ⟨b, o + j * 2, none⟩ = some a3 ∧ w'.cell? ⟨b, o + j * 2 + 1, none⟩ = some a4)
    (first | go_keep | exact HK.out _ hbl1 | exact HK.out _ hbl2) (first
    | (go_at_call 125; refine (turned_pv _ qj (lim j) _ HPj.out.drew).mono ?_; rintro e w1 ⟨r1, rfl, hb1', hp1⟩; have hbl1 : Below W.heap.size W w1 := below_undrew hb1'; obtain ⟨X1, n1, d1, X2, n2, d2, rfl⟩ := hp1.shape; have HP1 := Lib.hid hp1; clear hp1)
    | (go_at_call 104; refine (times_pv _ _ qi qj⁻¹ (lim i) (lim j) _ (HPi.out.below hbl1) HP1.out (by omega)).mono ?_; rintro e w2 ⟨r2, rfl, hb2, hp2⟩; have hbl2 : Below W.heap.size W w2 := below_then hbl1 hb2; obtain ⟨Y1, n3, d3, Y2, n4, d4, rfl⟩ := hp2.shape; have HP2 := Lib.hid hp2; clear hp2; have Y5 := HY.out.below HY.out.lt hbl2; obtain ⟨q0, q1, z0, z1⟩ := box2 Y5; obtain ⟨l0, l1, l2, l3, l4⟩ := HK.out _ hbl2))
  go_wp2
  exact bodyPost_ret (v := .agg #[.slice Y1 n3 d3, .slice Y2 n4 d4]) (by simp [results, Tryd.results124, go_sem, q0, q1]) rfl
    ⟨_, rfl, ((below_then hwW hbl2).setCell (p := ⟨w.heap.size, 0, none⟩) (by simp) _).setCell (p := ⟨w.heap.size, 1, none⟩) (by simp) _, HP2.out.box Y5 _ _⟩
end
end Go.Proofs.YtmibpncmebhbjaaDoor
