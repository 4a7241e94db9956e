/- MetroKnown: the other examples. -/
import Derived.Test.YtmibpncmebhbjaaDoorKno2
import Derived.Test.YtmibpncmebhbjaaDoorKno4
import Derived.Test.YtmibpncmebhbjaaDoorCar2
import Derived.Test.YtmibpncmebhbjaaDoorLad2
import Derived.Test.YtmibpncmebhbjaaDoorNam1
import Derived.Test.YtmibpncmebhbjaaDoorTrn2
namespace Go.Proofs.YtmibpncmebhbjaaDoor
open Go Go.RowKit Go.Shelf
attribute [local go_sem] Oper.semAt_some rrV

theorem kn_new : (newF stdL exB).1 = 0 := by kernel_rfl
def exS : St := (newF stdL exB).2
theorem kn_group : groupF exS ⟨#[116, 105, 109, 101]⟩ = [⟨#[103, 114, 97, 105, 110]⟩, ⟨#[116, 105, 109, 101]⟩, ⟨#[119, 101, 105, 103, 104, 116]⟩] := by kernel_rfl
theorem kn_f1 : factorF exS ⟨#[116, 105, 109, 101]⟩ ⟨#[119, 101, 105, 103, 104, 116]⟩ = ⟨5400, 1, 0⟩ := by kernel_rfl
theorem kn_f2 : factorF exS ⟨#[119, 101, 105, 103, 104, 116]⟩ ⟨#[103, 114, 97, 105, 110]⟩ = ⟨1, 1080, 0⟩ := by kernel_rfl
theorem kn_c : convF exS ⟨#[119, 101, 105, 103, 104, 116]⟩ 1000 ⟨#[103, 114, 97, 105, 110]⟩ = ⟨25, 27, 0⟩ := by kernel_rfl
def exB3 : List Br := exB ++ [mkBr ⟨#[119, 101, 105, 103, 104, 116]⟩ ⟨#[109, 97, 110, 97]⟩ ⟨#[116, 105, 109, 101]⟩ ⟨#[110, 48, 56]⟩ 1 15]
theorem kn_bad : (newF stdL exB3).1 = 12 := by kernel_rfl
theorem kn_carry : carryV lad_grain.nm lad_grain.us [7, 8, 9] = ([2, 3, 0, 1, 0, 0], [1, 1, 1, 0, 0], 0) := by kernel_rfl
theorem kn_in : inF (valueF lad_weight.nm lad_weight.us ⟨#[103, 105, 110]⟩).1 (valueF lad_weight.nm lad_weight.us ⟨#[103, 105, 110]⟩).2 90 = ⟨1, 2, 0⟩ := by kernel_rfl
theorem kn_up : roundF (valueF lad_weight.nm lad_weight.us ⟨#[103, 105, 110]⟩).1 (valueF lad_weight.nm lad_weight.us ⟨#[103, 105, 110]⟩).2 90 = (180, 0) := by kernel_rfl
theorem kn_down : roundF (valueF lad_weight.nm lad_weight.us ⟨#[103, 105, 110]⟩).1 (valueF lad_weight.nm lad_weight.us ⟨#[103, 105, 110]⟩).2 89 = (0, 0) := by kernel_rfl

theorem infoBri5 : (Tryd.prog.info? 83).map (fun i => (i.zero, i.size, i.bytes)) = some (some (.agg #[.string ⟨#[]⟩, .string ⟨#[]⟩, .string ⟨#[]⟩, .string ⟨#[]⟩, .int .i64 0, .int .i64 0]), 6, 80) := by kernel_rfl
section
variable {ops : Array Oper} {rest : List Oper} {o : Oper} {a : Act} {Q : Exit → Act → World → Prop} {w : World}
theorem appBri (s x : Operand) (hgd : o.guard = none) (ho : o.op = .call { callee := .builtin .append, args := #[s, x], argTypes := #[43, 43] })
    {base n : Nat} {v vx : Value} {xs news : List Value} (hs : a.eval s = v) (hx : a.eval x = vx) (hown : w.ownsRow base 83 6 v n xs) (hr : Sl w 6 vx news) (h1 : ∀ u ∈ news, u.oneCell' = true)
    {N : Nat} (hN : n * 6 + news.length = N * 6) (hb : N ≤ 1759218604441) (hbase : base ≤ w.heap.size)
    (h : ∀ A c w', Appended base 83 6 v xs news w w' A N c → wpList Tryd.prog ops Q rest (a.put o.dst (.slice A N c)) w') : wpList Tryd.prog ops Q (o :: rest) a w := by
  obtain ⟨i, hi, hz0, hz1, hz2⟩ := info_parts infoBri5
  exact wpList_app w hgd s x 43 ho base 83 i _ 6 80 Tryd.underlying43 hi hz0 hz1 hz2 rfl (by decide) v n xs hs hown vx news hx hr h1 N hN (by omega) (by decide) hbase h
end
set_option maxRecDepth 100000 in
set_option maxHeartbeats 1000000 in
theorem bridges_own (w : World) : Calls Tryd.prog 93 #[] w fun e w' => ∃ A c, e = .returned (.slice A 2 c) ∧ w'.ownsRow w.heap.size 83 6 (.slice A 2 c) 2 (brsV exB) ∧ Below w.heap.size w w' := by
  go_enter Tryd.func93, Tryd.ntmps93
  go_wp2
  go_ret
  exact ⟨_, _, rfl, own_lit (n := 2) (size := 6) (Cel.new w 83 _) (Nat.le_refl _) rfl (by decide), below_alloc' _ _⟩

set_option maxRecDepth 100000 in
set_option maxHeartbeats 8000000 in
theorem examples_any (v : Value) (w : World) (hz : Zw w) (hl : LadsV w v stdL) : Calls Tryd.prog 84 #[v] w fun e w' => e = .returned (.bool true) ∧ Below w.heap.size w w' := by
  obtain ⟨A, c, rfl, hlc, hcm, hlk⟩ := hl.open
  obtain ⟨lb, lo, SA2, sc2, e2, _, i0, i1, hs2⟩ := hlk 2 (by decide)
  subst e2
  obtain ⟨lb', lo', SA5, sc5, e5, _, j0, j1, hs5⟩ := hlk 5 (by decide)
  cases e5
  have HLC : Hid (∀ w', Below w.heap.size w w' → w'.cell? ⟨lb, lo + 4, none⟩ = some (.string lad_grain.nm) ∧ w'.cell? ⟨lb, lo + 5, none⟩ = some (.slice SA2 6 sc2) ∧ w'.cell? ⟨lb, lo + 10, none⟩ = some (.string lad_weight.nm) ∧ w'.cell? ⟨lb, lo + 11, none⟩ = some (.slice SA5 7 sc5)) := fun w' h =>
    ⟨below_cell h i0, below_cell h i1, below_cell h j0, below_cell h j1⟩
  have HS2 := Lib.hid (show Sl w 2 (.slice SA2 6 sc2) (unitsV lad_grain.us) from hs2)
  have HS5 := Lib.hid (show Sl w 2 (.slice SA5 7 sc5) (unitsV lad_weight.us) from hs5)
  have HL := Lib.hid hl
  have HZ := Lib.hid (fun w' (hb : Below w.heap.size w w') => hz.below hb)
  have KB : Hid (∀ w', Calls Tryd.prog 93 #[] w' fun e w'' => ∃ A c, e = .returned (.slice A 2 c) ∧ w''.ownsRow w'.heap.size 83 6 (.slice A 2 c) 2 (brsV exB) ∧ Below w'.heap.size w' w'') := bridges_own
  have KN : Hid (∀ (a b : Value) (w' : World), LadsV w' a stdL → Sl w' 6 b (brsV exB) → Calls Tryd.prog 35 #[a, b] w' fun e w'' => ∃ Bk bm lv gv fv, e = .returned (.tuple #[.pointer (some ⟨Bk, 0, none⟩), .int .i64 0]) ∧ BookV w'' Bk bm lv gv fv exS ∧ Below w'.heap.size w' w'') := fun a b w' h1 h2 => by
    refine (newbook_any stdL exB a b w' h1 h2 0 exS (by unfold exS; rw [← kn_new])).mono ?_
    rintro e w'' ⟨r, rfl, h3, _, h4⟩
    obtain ⟨Bk, bm, lv, gv, fv, rfl, h5⟩ := h4 rfl
    exact ⟨Bk, bm, lv, gv, fv, rfl, h5.view, h3⟩
  have KX : Hid (∀ (a b : Value) (w' : World), LadsV w' a stdL → Sl w' 6 b (brsV exB3) → Calls Tryd.prog 35 #[a, b] w' fun e w'' => e = .returned (.tuple #[.pointer none, .int .i64 12]) ∧ Below w'.heap.size w' w'') := fun a b w' h1 h2 => by
    refine (newbook_any stdL exB3 a b w' h1 h2 12 (newF stdL exB3).2 (by rw [← kn_bad])).mono ?_
    rintro e w'' ⟨r, rfl, h3, h4, _⟩
    rw [h4 (by decide)]
    exact ⟨rfl, h3⟩
  have HG : Hid (Good exS) := good_new kn_new
  have KG : Hid (∀ (Bk bm : Nat) (lv gv fv : Value) (w' : World), BookV w' Bk bm lv gv fv exS → Calls Tryd.prog 52 #[.pointer (some ⟨Bk, 0, none⟩), .string ⟨#[116, 105, 109, 101]⟩] w' fun e w'' => ∃ A n c, e = .returned (.slice A n c) ∧ Sl w'' 1 (.slice A n c) (namesV [⟨#[103, 114, 97, 105, 110]⟩, ⟨#[116, 105, 109, 101]⟩, ⟨#[119, 101, 105, 103, 104, 116]⟩]) ∧ Below w'.heap.size w' w'') := fun Bk bm lv gv fv w' hb => by
    refine (group_any Bk bm lv gv fv exS ⟨#[116, 105, 109, 101]⟩ w' hb HG.out).mono ?_
    rintro e w'' ⟨r, rfl, h1, h2⟩
    rw [kn_group] at h1
    obtain ⟨A, n, c, rfl, h3⟩ := h1.shape
    exact ⟨A, n, c, rfl, h3, h2⟩
  have KF1 : Hid (∀ (Bk bm : Nat) (lv gv fv : Value) (w' : World), BookV w' Bk bm lv gv fv exS → Calls Tryd.prog 41 #[.pointer (some ⟨Bk, 0, none⟩), .string ⟨#[116, 105, 109, 101]⟩, .string ⟨#[119, 101, 105, 103, 104, 116]⟩] w' fun e w'' => e = .returned (rrV ⟨5400, 1, 0⟩) ∧ Below w'.heap.size w' w'') := fun Bk bm lv gv fv w' hb => by
    have := factor_any Bk bm lv gv fv exS ⟨#[116, 105, 109, 101]⟩ ⟨#[119, 101, 105, 103, 104, 116]⟩ w' hb HG.out
    rwa [kn_f1] at this
  have KF2 : Hid (∀ (Bk bm : Nat) (lv gv fv : Value) (w' : World), BookV w' Bk bm lv gv fv exS → Calls Tryd.prog 41 #[.pointer (some ⟨Bk, 0, none⟩), .string ⟨#[119, 101, 105, 103, 104, 116]⟩, .string ⟨#[103, 114, 97, 105, 110]⟩] w' fun e w'' => e = .returned (rrV ⟨1, 1080, 0⟩) ∧ Below w'.heap.size w' w'') := fun Bk bm lv gv fv w' hb => by
    have := factor_any Bk bm lv gv fv exS ⟨#[119, 101, 105, 103, 104, 116]⟩ ⟨#[103, 114, 97, 105, 110]⟩ w' hb HG.out
    rwa [kn_f2] at this
  have KC : Hid (∀ (Bk bm : Nat) (lv gv fv : Value) (w' : World), Below w.heap.size w w' → BookV w' Bk bm lv gv fv exS → Calls Tryd.prog 37 #[.pointer (some ⟨Bk, 0, none⟩), .agg #[.string ⟨#[119, 101, 105, 103, 104, 116]⟩, .int .i64 1000], .string ⟨#[103, 114, 97, 105, 110]⟩] w' fun e w'' => e = .returned (rrV ⟨25, 27, 0⟩) ∧ Below w'.heap.size w' w'') := fun Bk bm lv gv fv w' h hb => by
    have := convert_any Bk bm lv gv fv exS ⟨#[119, 101, 105, 103, 104, 116]⟩ ⟨#[103, 114, 97, 105, 110]⟩ 1000 w' hb HG.out (HZ.out w' h)
    rwa [kn_c] at this
  have KCA : Hid (∀ (B : Option Addr) (cb : Nat) (w' : World), Below w.heap.size w w' → Sl w' 1 (.slice B 3 cb) ([7, 8, 9].map (Value.int .i64)) → Calls Tryd.prog 75 #[.agg #[.string lad_grain.nm, .slice SA2 6 sc2], .slice B 3 cb] w' fun e w'' => ∃ A1 n1 c1 A2 n2 c2, e = .returned (.tuple #[.slice A1 n1 c1, .slice A2 n2 c2, .int .i64 0]) ∧ Sl w'' 1 (.slice A1 n1 c1) ([2, 3, 0, 1, 0, 0].map (Value.int .i64)) ∧ Sl w'' 1 (.slice A2 n2 c2) ([1, 1, 1, 0, 0].map (Value.int .i64)) ∧ Below w'.heap.size w' w'') := fun B cb w' h hs => by
    refine (carry_any lad_grain.nm (by decide) SA2 sc2 lad_grain.us B cb [7, 8, 9] w' (HS2.out.below h) hs (by unfold Bd; decide)).mono ?_
    rintro e w'' ⟨va, vb, rfl, h1, h2, h3⟩
    rw [kn_carry] at h1 h2 ⊢
    obtain ⟨A1, n1, c1, rfl, h4⟩ := h1.shape
    obtain ⟨A2, n2, c2, rfl, h5⟩ := h2.shape
    exact ⟨A1, n1, c1, A2, n2, c2, rfl, h4, h5, h3⟩
  have KI : Hid (∀ (w' : World), Below w.heap.size w w' → Calls Tryd.prog 56 #[.agg #[.string lad_weight.nm, .slice SA5 7 sc5], .int .i64 90, .string ⟨#[103, 105, 110]⟩] w' fun e w'' => e = .returned (rrV ⟨1, 2, 0⟩) ∧ Below w'.heap.size w' w'') := fun w' h => by
    have := in_any lad_weight.nm (by decide) SA5 sc5 lad_weight.us 90 ⟨#[103, 105, 110]⟩ w' (HZ.out w' h) (HS5.out.below h) (by decide) (by decide)
    rwa [kn_in] at this
  have KR1 : Hid (∀ (w' : World), Below w.heap.size w w' → Calls Tryd.prog 50 #[.agg #[.string lad_weight.nm, .slice SA5 7 sc5], .int .i64 90, .string ⟨#[103, 105, 110]⟩] w' fun e w'' => e = .returned (.tuple #[.int .i64 180, .int .i64 0]) ∧ Below w'.heap.size w' w'') := fun w' h => by
    have := round_any lad_weight.nm (by decide) SA5 sc5 lad_weight.us 90 ⟨#[103, 105, 110]⟩ w' (HS5.out.below h) (by decide) (by decide)
    rwa [kn_up] at this
  have KR2 : Hid (∀ (w' : World), Below w.heap.size w w' → Calls Tryd.prog 50 #[.agg #[.string lad_weight.nm, .slice SA5 7 sc5], .int .i64 89, .string ⟨#[103, 105, 110]⟩] w' fun e w'' => e = .returned (.tuple #[.int .i64 0, .int .i64 0]) ∧ Below w'.heap.size w' w'') := fun w' h => by
    have := round_any lad_weight.nm (by decide) SA5 sc5 lad_weight.us 89 ⟨#[103, 105, 110]⟩ w' (HS5.out.below h) (by decide) (by decide)
    rwa [kn_down] at this
  have KQ1 : Hid (∀ (a b : Value) (w' : World), Sl w' 1 a ([2, 3, 0, 1, 0, 0].map (Value.int .i64)) → Sl w' 1 b ([2, 3, 0, 1, 0, 0].map (Value.int .i64)) → Calls Tryd.prog 55 #[a, b] w' fun e w'' => e = .returned (.bool true) ∧ Below w'.heap.size w' w'') := fun a b w' h1 h2 => by
    have := eqInts_any a b [2, 3, 0, 1, 0, 0] [2, 3, 0, 1, 0, 0] w' h1 h2
    simpa using this
  have KQ2 : Hid (∀ (a b : Value) (w' : World), Sl w' 1 a ([1, 1, 1, 0, 0].map (Value.int .i64)) → Sl w' 1 b ([1, 1, 1, 0, 0].map (Value.int .i64)) → Calls Tryd.prog 55 #[a, b] w' fun e w'' => e = .returned (.bool true) ∧ Below w'.heap.size w' w'') := fun a b w' h1 h2 => by
    have := eqInts_any a b [1, 1, 1, 0, 0] [1, 1, 1, 0, 0] w' h1 h2
    simpa using this
  clear hz hl hlk i0 i1 j0 j1 hs2 hs5
  have HB0 := Lib.hid (Below.refl w.heap.size w)
  go_enter Tryd.func84, Tryd.ntmps84
  go_wp2_with fail
  go_fit (KB.out w)
  rintro e w1 ⟨A1, c1, rfl, ho1, hb⟩
  have HB1 := Lib.hid hb
  have HSB := Lib.hid (Sl.of_own ho1)
  clear hb ho1
  go_wp2_with fail
  go_fit (KN.out _ _ w1 (HL.out.below HB1.out) HSB.out)
  rintro e w2 ⟨Bk, bm, lv, gv, fv, rfl, hbv, hb⟩
  have HB2 := Lib.hid (below_then HB1.out hb)
  have HV2 := Lib.hid hbv
  clear hb hbv HSB
  go_wp2_with fail
  go_fit (KG.out _ _ _ _ _ w2 HV2.out)
  rintro e w3 ⟨A3, n3, c3, rfl, hs, hb⟩
  have HB3 := Lib.hid ((below_then HB2.out hb).alloc (below_then HB2.out hb).size (.cells #[.string ⟨#[103, 114, 97, 105, 110]⟩, .string ⟨#[116, 105, 109, 101]⟩, .string ⟨#[119, 101, 105, 103, 104, 116]⟩] 9))
  have HV3 := Lib.hid ((HV2.out.below hb).below (below_alloc' w3 (.cells #[.string ⟨#[103, 114, 97, 105, 110]⟩, .string ⟨#[116, 105, 109, 101]⟩, .string ⟨#[119, 101, 105, 103, 104, 116]⟩] 9)))
  have HS3 := Lib.hid (hs.below (below_alloc' w3 (.cells #[.string ⟨#[103, 114, 97, 105, 110]⟩, .string ⟨#[116, 105, 109, 101]⟩, .string ⟨#[119, 101, 105, 103, 104, 116]⟩] 9)))
  have HT3 := Lib.hid ((Cel.new w3 9 #[.string ⟨#[103, 114, 97, 105, 110]⟩, .string ⟨#[116, 105, 109, 101]⟩, .string ⟨#[119, 101, 105, 103, 104, 116]⟩]).sl (s := 1) (m := 3) (cap := 3) (xs := namesV [⟨#[103, 114, 97, 105, 110]⟩, ⟨#[116, 105, 109, 101]⟩, ⟨#[119, 101, 105, 103, 104, 116]⟩]) rfl rfl (Nat.le_refl _) (by decide))
  clear hb hs HV2
  go_wp2_with fail
  go_fit (eqTexts_same _ _ [⟨#[103, 114, 97, 105, 110]⟩, ⟨#[116, 105, 109, 101]⟩, ⟨#[119, 101, 105, 103, 104, 116]⟩] _ HS3.out HT3.out)
  rintro e w4 ⟨rfl, hb⟩
  have HB4 := Lib.hid (below_then HB3.out hb)
  have HV4 := Lib.hid (HV3.out.below hb)
  clear hb HS3 HT3 HV3
  go_wp2_with fail
  go_fit (KF1.out _ _ _ _ _ _ HV4.out)
  rintro e w5 ⟨rfl, hb⟩
  have HB5 := Lib.hid (below_then HB4.out hb)
  have HV5 := Lib.hid (HV4.out.below hb)
  clear hb
  have HB6 := Lib.hid (HB5.out.alloc HB5.out.size (.cells #[.int .i64 5400, .int .i64 1] 23))
  have HM6 : Hid (∀ w', Below (w5.alloc (.cells #[.int .i64 5400, .int .i64 1] 23)).heap.size (w5.alloc (.cells #[.int .i64 5400, .int .i64 1] 23)) w' → w'.cell? ⟨w5.heap.size, 0, none⟩ = some (.int .i64 5400) ∧ w'.cell? ⟨w5.heap.size, 1, none⟩ = some (.int .i64 1)) := fun w' h => by
    exact ⟨below_cell h ((Cel.at w5 (w5.heap.size) 23 #[.int .i64 5400, .int .i64 1] (by simp)).cell 0 _ rfl), below_cell h ((Cel.at w5 (w5.heap.size) 23 #[.int .i64 5400, .int .i64 1] (by simp)).cell 1 _ rfl)⟩
  have HV6 := Lib.hid (HV5.out.below (below_alloc' w5 (.cells #[.int .i64 5400, .int .i64 1] 23)))
  go_wp2_with fail
  go_fit (KF2.out _ _ _ _ _ _ HV6.out)
  rintro e w7 ⟨rfl, hb⟩
  have HB7 := Lib.hid (below_then HB6.out hb)
  have HM7 : Hid (∀ w', Below w7.heap.size w7 w' → w'.cell? ⟨w5.heap.size, 0, none⟩ = some (.int .i64 5400) ∧ w'.cell? ⟨w5.heap.size, 1, none⟩ = some (.int .i64 1)) := fun w' h => by
    obtain ⟨q0, q1⟩ := HM6.out w' (below_then hb h)
    exact ⟨q0, q1⟩
  have HV7 := Lib.hid (HV6.out.below hb)
  clear hb
  have HB8 := Lib.hid (HB7.out.alloc HB7.out.size (.cells #[.int .i64 1, .int .i64 1080] 23))
  have HM8 : Hid (∀ w', Below (w7.alloc (.cells #[.int .i64 1, .int .i64 1080] 23)).heap.size (w7.alloc (.cells #[.int .i64 1, .int .i64 1080] 23)) w' → w'.cell? ⟨w5.heap.size, 0, none⟩ = some (.int .i64 5400) ∧ w'.cell? ⟨w5.heap.size, 1, none⟩ = some (.int .i64 1) ∧ w'.cell? ⟨w7.heap.size, 0, none⟩ = some (.int .i64 1) ∧ w'.cell? ⟨w7.heap.size, 1, none⟩ = some (.int .i64 1080)) := fun w' h => by
    obtain ⟨q0, q1⟩ := HM7.out w' (below_then (below_alloc' w7 (.cells #[.int .i64 1, .int .i64 1080] 23)) h)
    exact ⟨q0, q1, below_cell h ((Cel.at w7 (w7.heap.size) 23 #[.int .i64 1, .int .i64 1080] (by simp)).cell 0 _ rfl), below_cell h ((Cel.at w7 (w7.heap.size) 23 #[.int .i64 1, .int .i64 1080] (by simp)).cell 1 _ rfl)⟩
  have HV8 := Lib.hid (HV7.out.below (below_alloc' w7 (.cells #[.int .i64 1, .int .i64 1080] 23)))
  go_wp2_with fail
  go_fit (KC.out _ _ _ _ _ _ HB8.out HV8.out)
  rintro e w9 ⟨rfl, hb⟩
  have HB9 := Lib.hid (below_then HB8.out hb)
  have HM9 : Hid (∀ w', Below w9.heap.size w9 w' → w'.cell? ⟨w5.heap.size, 0, none⟩ = some (.int .i64 5400) ∧ w'.cell? ⟨w5.heap.size, 1, none⟩ = some (.int .i64 1) ∧ w'.cell? ⟨w7.heap.size, 0, none⟩ = some (.int .i64 1) ∧ w'.cell? ⟨w7.heap.size, 1, none⟩ = some (.int .i64 1080)) := fun w' h => by
    obtain ⟨q0, q1, q2, q3⟩ := HM8.out w' (below_then hb h)
    exact ⟨q0, q1, q2, q3⟩
  have HV9 := Lib.hid (HV8.out.below hb)
  clear hb
  have HB10 := Lib.hid (HB9.out.alloc HB9.out.size (.cells #[.int .i64 25, .int .i64 27] 23))
  have HM10 : Hid (∀ w', Below (w9.alloc (.cells #[.int .i64 25, .int .i64 27] 23)).heap.size (w9.alloc (.cells #[.int .i64 25, .int .i64 27] 23)) w' → w'.cell? ⟨w5.heap.size, 0, none⟩ = some (.int .i64 5400) ∧ w'.cell? ⟨w5.heap.size, 1, none⟩ = some (.int .i64 1) ∧ w'.cell? ⟨w7.heap.size, 0, none⟩ = some (.int .i64 1) ∧ w'.cell? ⟨w7.heap.size, 1, none⟩ = some (.int .i64 1080) ∧ w'.cell? ⟨w9.heap.size, 0, none⟩ = some (.int .i64 25) ∧ w'.cell? ⟨w9.heap.size, 1, none⟩ = some (.int .i64 27)) := fun w' h => by
    obtain ⟨q0, q1, q2, q3⟩ := HM9.out w' (below_then (below_alloc' w9 (.cells #[.int .i64 25, .int .i64 27] 23)) h)
    exact ⟨q0, q1, q2, q3, below_cell h ((Cel.at w9 (w9.heap.size) 23 #[.int .i64 25, .int .i64 27] (by simp)).cell 0 _ rfl), below_cell h ((Cel.at w9 (w9.heap.size) 23 #[.int .i64 25, .int .i64 27] (by simp)).cell 1 _ rfl)⟩
  have HV10 := Lib.hid (HV9.out.below (below_alloc' w9 (.cells #[.int .i64 25, .int .i64 27] 23)))
  obtain ⟨g0, g1, g2, g3, g4, g5⟩ := HM10.out _ (Below.refl _ _)
  go_wp2_with fail
  clear g0 g1 g2 g3 g4 g5
  go_fit (KB.out _)
  rintro e u1 ⟨A9, c9, rfl, ho9, hb⟩
  have HU1 := Lib.hid (below_then HB10.out hb)
  have HO9 := Lib.hid (own_alloc (o := .cells #[.string ⟨#[119, 101, 105, 103, 104, 116]⟩, .string ⟨#[109, 97, 110, 97]⟩, .string ⟨#[116, 105, 109, 101]⟩, .string ⟨#[110, 48, 56]⟩, .int .i64 1, .int .i64 15] 83) ho9)
  have HS9 := Lib.hid (Sl.new (s := 6) u1 83 1 1 #[.string ⟨#[119, 101, 105, 103, 104, 116]⟩, .string ⟨#[109, 97, 110, 97]⟩, .string ⟨#[116, 105, 109, 101]⟩, .string ⟨#[110, 48, 56]⟩, .int .i64 1, .int .i64 15] rfl (Nat.le_refl _) (by decide))
  have HU2 := Lib.hid (HU1.out.alloc HU1.out.size (.cells #[.string ⟨#[119, 101, 105, 103, 104, 116]⟩, .string ⟨#[109, 97, 110, 97]⟩, .string ⟨#[116, 105, 109, 101]⟩, .string ⟨#[110, 48, 56]⟩, .int .i64 1, .int .i64 15] 83))
  have hbz := HB10.out.size
  have hbu := hb.size
  clear hb ho9
  go_wp2_with (at_builtin; refine appBri (.tmp 80) (.tmp 83) rfl rfl rfl rfl HO9.out HS9.out (by simp [Value.oneCell']) (N := 3) (by decide) (by decide) (by have := hbu; simp at this ⊢; omega) ?_; intro A10 c10 u2 hap; have HU3 := Lib.hid (HU2.out.grown hap.grown (by have := HU2.out.size; exact this) (fun g hg => by have := own_ge HO9.out hg; omega)); have HSX := Lib.hid (show Sl u2 6 (.slice A10 3 c10) (brsV exB3) from Sl.of_own hap.own); clear hap)
  go_fit (KX.out _ _ u2 (HL.out.below HU3.out) HSX.out)
  rintro e u3 ⟨rfl, hb⟩
  have HB100 := Lib.hid (below_then HU3.out hb)
  clear hb HSX HO9 HS9
  obtain ⟨l0, l1, l2, l3⟩ := HLC.out u3 HB100.out
  have HB101 := Lib.hid (HB100.out.alloc HB100.out.size (.cells #[.int .i64 7, .int .i64 8, .int .i64 9] 3))
  have HC3 := Lib.hid ((Cel.new u3 3 #[.int .i64 7, .int .i64 8, .int .i64 9]).sl (s := 1) (m := 3) (cap := 3) (xs := [7, 8, 9].map (Value.int .i64)) rfl rfl (Nat.le_refl _) (by decide))
  go_wp2_with fail
  go_fit (KCA.out _ _ _ HB101.out HC3.out)
  rintro e x1 ⟨E1, m1, d1, E2, m2, d2, rfl, hs1, hs2, hb⟩
  have HB102 := Lib.hid (below_then HB101.out hb)
  have HQ1 := Lib.hid hs1
  have HQ2 := Lib.hid hs2
  clear hb hs1 hs2 l0 l1 l2 l3 HC3
  obtain ⟨l0, l1, l2, l3⟩ := HLC.out _ HB102.out
  go_wp2_with fail
  go_fit (KI.out _ HB102.out)
  rintro e w103 ⟨rfl, hb⟩
  have HB103 := Lib.hid (below_then HB102.out hb)
  have HQ1 := Lib.hid (HQ1.out.below hb)
  have HQ2 := Lib.hid (HQ2.out.below hb)
  clear hb
  clear l0 l1 l2 l3
  have HB104 := Lib.hid (HB103.out.alloc HB103.out.size (.cells #[.int .i64 1, .int .i64 2] 23))
  have HM104 : Hid (∀ w', Below (w103.alloc (.cells #[.int .i64 1, .int .i64 2] 23)).heap.size (w103.alloc (.cells #[.int .i64 1, .int .i64 2] 23)) w' → w'.cell? ⟨w103.heap.size, 0, none⟩ = some (.int .i64 1) ∧ w'.cell? ⟨w103.heap.size, 1, none⟩ = some (.int .i64 2)) := fun w' h => by
    exact ⟨below_cell h ((Cel.at w103 (w103.heap.size) 23 #[.int .i64 1, .int .i64 2] (by simp)).cell 0 _ rfl), below_cell h ((Cel.at w103 (w103.heap.size) 23 #[.int .i64 1, .int .i64 2] (by simp)).cell 1 _ rfl)⟩
  have HQ1 := Lib.hid (HQ1.out.below (below_alloc' w103 (.cells #[.int .i64 1, .int .i64 2] 23)))
  have HQ2 := Lib.hid (HQ2.out.below (below_alloc' w103 (.cells #[.int .i64 1, .int .i64 2] 23)))
  obtain ⟨l0, l1, l2, l3⟩ := HLC.out _ HB104.out
  go_wp2_with fail
  go_fit (KR1.out _ HB104.out)
  rintro e w105 ⟨rfl, hb⟩
  have HB105 := Lib.hid (below_then HB104.out hb)
  have HM105 : Hid (∀ w', Below w105.heap.size w105 w' → w'.cell? ⟨w103.heap.size, 0, none⟩ = some (.int .i64 1) ∧ w'.cell? ⟨w103.heap.size, 1, none⟩ = some (.int .i64 2)) := fun w' h => by
    obtain ⟨q0, q1⟩ := HM104.out w' (below_then hb h)
    exact ⟨q0, q1⟩
  have HQ1 := Lib.hid (HQ1.out.below hb)
  have HQ2 := Lib.hid (HQ2.out.below hb)
  clear hb
  clear l0 l1 l2 l3
  obtain ⟨l0, l1, l2, l3⟩ := HLC.out _ HB105.out
  go_wp2_with fail
  go_fit (KR2.out _ HB105.out)
  rintro e w106 ⟨rfl, hb⟩
  have HB106 := Lib.hid (below_then HB105.out hb)
  have HM106 : Hid (∀ w', Below w106.heap.size w106 w' → w'.cell? ⟨w103.heap.size, 0, none⟩ = some (.int .i64 1) ∧ w'.cell? ⟨w103.heap.size, 1, none⟩ = some (.int .i64 2)) := fun w' h => by
    obtain ⟨q0, q1⟩ := HM105.out w' (below_then hb h)
    exact ⟨q0, q1⟩
  have HQ1 := Lib.hid (HQ1.out.below hb)
  have HQ2 := Lib.hid (HQ2.out.below hb)
  clear hb
  clear l0 l1 l2 l3
  have HB107 := Lib.hid (HB106.out.alloc HB106.out.size (.cells #[.int .i64 2, .int .i64 3, .int .i64 0, .int .i64 1, .int .i64 0, .int .i64 0] 3))
  have HM107 : Hid (∀ w', Below (w106.alloc (.cells #[.int .i64 2, .int .i64 3, .int .i64 0, .int .i64 1, .int .i64 0, .int .i64 0] 3)).heap.size (w106.alloc (.cells #[.int .i64 2, .int .i64 3, .int .i64 0, .int .i64 1, .int .i64 0, .int .i64 0] 3)) w' → w'.cell? ⟨w103.heap.size, 0, none⟩ = some (.int .i64 1) ∧ w'.cell? ⟨w103.heap.size, 1, none⟩ = some (.int .i64 2)) := fun w' h => by
    obtain ⟨q0, q1⟩ := HM106.out w' (below_then (below_alloc' w106 (.cells #[.int .i64 2, .int .i64 3, .int .i64 0, .int .i64 1, .int .i64 0, .int .i64 0] 3)) h)
    exact ⟨q0, q1⟩
  have HQ1 := Lib.hid (HQ1.out.below (below_alloc' w106 (.cells #[.int .i64 2, .int .i64 3, .int .i64 0, .int .i64 1, .int .i64 0, .int .i64 0] 3)))
  have HQ2 := Lib.hid (HQ2.out.below (below_alloc' w106 (.cells #[.int .i64 2, .int .i64 3, .int .i64 0, .int .i64 1, .int .i64 0, .int .i64 0] 3)))
  have HEQ := Lib.hid ((Cel.new w106 3 #[.int .i64 2, .int .i64 3, .int .i64 0, .int .i64 1, .int .i64 0, .int .i64 0]).sl (s := 1) (m := 6) (cap := 6) (xs := [2, 3, 0, 1, 0, 0].map (Value.int .i64)) rfl rfl (Nat.le_refl _) (by decide))
  obtain ⟨g0, g1⟩ := HM107.out _ (Below.refl _ _)
  go_wp2_with fail
  go_fit (KQ1.out _ _ _ HQ1.out HEQ.out)
  rintro e w108 ⟨rfl, hb⟩
  clear g0 g1
  have HB108 := Lib.hid (below_then HB107.out hb)
  have HM108 : Hid (∀ w', Below w108.heap.size w108 w' → w'.cell? ⟨w103.heap.size, 0, none⟩ = some (.int .i64 1) ∧ w'.cell? ⟨w103.heap.size, 1, none⟩ = some (.int .i64 2)) := fun w' h => by
    obtain ⟨q0, q1⟩ := HM107.out w' (below_then hb h)
    exact ⟨q0, q1⟩
  have HQ1 := Lib.hid (HQ1.out.below hb)
  have HQ2 := Lib.hid (HQ2.out.below hb)
  clear hb
  have HB109 := Lib.hid (HB108.out.alloc HB108.out.size (.cells #[.int .i64 1, .int .i64 1, .int .i64 1, .int .i64 0, .int .i64 0] 3))
  have HM109 : Hid (∀ w', Below (w108.alloc (.cells #[.int .i64 1, .int .i64 1, .int .i64 1, .int .i64 0, .int .i64 0] 3)).heap.size (w108.alloc (.cells #[.int .i64 1, .int .i64 1, .int .i64 1, .int .i64 0, .int .i64 0] 3)) w' → w'.cell? ⟨w103.heap.size, 0, none⟩ = some (.int .i64 1) ∧ w'.cell? ⟨w103.heap.size, 1, none⟩ = some (.int .i64 2)) := fun w' h => by
    obtain ⟨q0, q1⟩ := HM108.out w' (below_then (below_alloc' w108 (.cells #[.int .i64 1, .int .i64 1, .int .i64 1, .int .i64 0, .int .i64 0] 3)) h)
    exact ⟨q0, q1⟩
  have HQ1 := Lib.hid (HQ1.out.below (below_alloc' w108 (.cells #[.int .i64 1, .int .i64 1, .int .i64 1, .int .i64 0, .int .i64 0] 3)))
  have HQ2 := Lib.hid (HQ2.out.below (below_alloc' w108 (.cells #[.int .i64 1, .int .i64 1, .int .i64 1, .int .i64 0, .int .i64 0] 3)))
  have HEQ := Lib.hid ((Cel.new w108 3 #[.int .i64 1, .int .i64 1, .int .i64 1, .int .i64 0, .int .i64 0]).sl (s := 1) (m := 5) (cap := 5) (xs := [1, 1, 1, 0, 0].map (Value.int .i64)) rfl rfl (Nat.le_refl _) (by decide))
  obtain ⟨g0, g1⟩ := HM109.out _ (Below.refl _ _)
  go_wp2_with fail
  go_fit (KQ2.out _ _ _ HQ2.out HEQ.out)
  rintro e w110 ⟨rfl, hb⟩
  clear g0 g1
  have HB110 := Lib.hid (below_then HB109.out hb)
  have HM110 : Hid (∀ w', Below w110.heap.size w110 w' → w'.cell? ⟨w103.heap.size, 0, none⟩ = some (.int .i64 1) ∧ w'.cell? ⟨w103.heap.size, 1, none⟩ = some (.int .i64 2)) := fun w' h => by
    obtain ⟨q0, q1⟩ := HM109.out w' (below_then hb h)
    exact ⟨q0, q1⟩
  have HQ1 := Lib.hid (HQ1.out.below hb)
  have HQ2 := Lib.hid (HQ2.out.below hb)
  clear hb
  obtain ⟨g0, g1⟩ := HM110.out _ (Below.refl _ _)
  go_wp2
  go_ret
  exact ⟨rfl, HB110.out⟩
end Go.Proofs.YtmibpncmebhbjaaDoor
