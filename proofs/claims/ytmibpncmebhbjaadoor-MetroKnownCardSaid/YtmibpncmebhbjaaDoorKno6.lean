/- MetroKnown: the walk. -/
import Derived.Test.YtmibpncmebhbjaaDoorKno5
import Derived.Test.YtmibpncmebhbjaaDoorMLad
import Derived.Test.YtmibpncmebhbjaaDoorP10
import Derived.Deep.RegionHeld3
namespace Go.Proofs.YtmibpncmebhbjaaDoor
open Go Go.RowKit Go.Shelf
attribute [local go_sem] Oper.semAt_some rrV

def knNames : Array Value := #[.string ⟨#[99, 111, 117, 110, 116]⟩, .string ⟨#[98, 105, 115, 101, 120]⟩, .string ⟨#[103, 114, 97, 105, 110]⟩, .string ⟨#[97, 114, 101, 97]⟩, .string ⟨#[116, 105, 109, 101]⟩, .string ⟨#[119, 101, 105, 103, 104, 116]⟩]
def knTops : Array Value := #[.string ⟨#[110, 53, 48]⟩, .string ⟨#[110, 53, 54]⟩, .string ⟨#[110, 51, 52]⟩, .string ⟨#[110, 52, 53]⟩, .string ⟨#[110, 53, 55]⟩, .string ⟨#[103, 117, 110]⟩]
def knVals : Array Value := #[.int .i64 36000, .int .i64 7200, .int .i64 9000, .int .i64 1080, .int .i64 360, .int .i64 648000]
theorem kn_tab (i : Nat) (h : i < 6) : ∃ (nm : ByteArray) (us : List Un) (top : ByteArray) (val : Int) (m : Nat), (∀ (h' : i < stdL.length), stdL[i].nm = nm ∧ stdL[i].us = us) ∧ us.length = m + 1 ∧ m ≤ 11 ∧ (unitsV us)[m * 2]? = some (.string top) ∧ valueF nm us top = (val, 0) ∧ checkF nm us = 0 ∧ knNames[i]? = some (.string nm) ∧ knTops[i]? = some (.string top) ∧ knVals[i]? = some (.int .i64 val) ∧ (nm.size : Int) ≤ 9223372036854775807 := by
  have : i = 0 ∨ i = 1 ∨ i = 2 ∨ i = 3 ∨ i = 4 ∨ i = 5 := by omega
  rcases this with e | e | e | e | e | e <;> subst e
  · exact ⟨_, _, _, 36000, 5, fun _ => ⟨rfl, rfl⟩, rfl, by decide, rfl, by kernel_rfl, by kernel_rfl, rfl, rfl, rfl, by decide⟩
  · exact ⟨_, _, _, 7200, 5, fun _ => ⟨rfl, rfl⟩, rfl, by decide, rfl, by kernel_rfl, by kernel_rfl, rfl, rfl, rfl, by decide⟩
  · exact ⟨_, _, _, 9000, 5, fun _ => ⟨rfl, rfl⟩, rfl, by decide, rfl, by kernel_rfl, by kernel_rfl, rfl, rfl, rfl, by decide⟩
  · exact ⟨_, _, _, 1080, 4, fun _ => ⟨rfl, rfl⟩, rfl, by decide, rfl, by kernel_rfl, by kernel_rfl, rfl, rfl, rfl, by decide⟩
  · exact ⟨_, _, _, 360, 3, fun _ => ⟨rfl, rfl⟩, rfl, by decide, rfl, by kernel_rfl, by kernel_rfl, rfl, rfl, rfl, by decide⟩
  · exact ⟨_, _, _, 648000, 6, fun _ => ⟨rfl, rfl⟩, rfl, by decide, rfl, by kernel_rfl, by kernel_rfl, rfl, rfl, rfl, by decide⟩
theorem kn_none : newF [] [] = (0, st0 []) := rfl
theorem LadsV.nil (w : World) : LadsV w (.slice none 0 0) [] := ⟨[], rfl, Sl.nil0 w 2, fun _ h => absurd h List.not_mem_nil⟩

set_option maxRecDepth 100000 in
set_option maxHeartbeats 8000000 in
theorem known_any (w : World) (hz : Zw w) : Calls Tryd.prog 20 #[] w fun e w' => e = .returned (.bool true) ∧ Below w.heap.size w w' := by
  have HZ := Lib.hid (fun w' (hb : Below w.heap.size w w') => hz.below hb)
  have KE : Hid (∀ w', Calls Tryd.prog 35 #[.slice none 0 0, .slice none 0 0] w' fun e w'' => ∃ Bk bm lv gv fv, e = .returned (.tuple #[.pointer (some ⟨Bk, 0, none⟩), .int .i64 0]) ∧ BookV w'' Bk bm lv gv fv (st0 []) ∧ Below w'.heap.size w' w'') := fun w' => by
    refine (newbook_any [] [] _ _ w' (LadsV.nil w') (Sl.nil0 w' 6) 0 (st0 []) kn_none).mono ?_
    rintro e w'' ⟨r, rfl, h3, _, h4⟩
    obtain ⟨Bk, bm, lv, gv, fv, rfl, h5⟩ := h4 rfl
    exact ⟨Bk, bm, lv, gv, fv, rfl, h5.view, h3⟩
  have KW : Hid (∀ w', Below w.heap.size w w' → Calls Tryd.prog 27 #[] w' fun e w'' => e = .returned (.bool true) ∧ Below w'.heap.size w' w'') := fun w' hb => works_any w' (HZ.out w' hb)
  have KN : Hid (∀ v w', Below w.heap.size w w' → NoB w' v → Calls Tryd.prog 82 #[v] w' fun e w'' => e = .returned (.bool true) ∧ Below w'.heap.size w' w'') := fun v w' _ h => nothing_any v w' h
  have KX : Hid (∀ v w', Below w.heap.size w w' → LadsV w' v stdL → Calls Tryd.prog 84 #[v] w' fun e w'' => e = .returned (.bool true) ∧ Below w'.heap.size w' w'') := fun v w' hb h => examples_any v w' (HZ.out w' hb) h
  have KL : Hid (∀ w', Below w.heap.size w w' → Calls Tryd.prog 85 #[] w' fun e w'' => e = .returned (.bool true) ∧ Below w'.heap.size w' w'') := fun w' hb => limits_any w' (HZ.out w' hb)
  have KD : Hid (∀ (Bk bm : Nat) (lv gv fv : Value) (w' : World), BookV w' Bk bm lv gv fv (st0 []) → Calls Tryd.prog 70 #[.pointer (some ⟨Bk, 0, none⟩), .string ⟨#[99, 111, 117, 110, 116]⟩] w' fun e w'' => e = .returned (.tuple #[.agg #[.string ⟨#[]⟩, .slice none 0 0], .int .i64 4]) ∧ Below w'.heap.size w' w'') := fun Bk bm lv gv fv w' hb => mladder_no Bk bm lv gv fv (st0 []) ⟨#[99, 111, 117, 110, 116]⟩ w' hb (by decide)
  have KNA : Hid (∀ (Bk bm : Nat) (lv gv fv : Value) (w' : World), BookV w' Bk bm lv gv fv (st0 []) → Calls Tryd.prog 59 #[.pointer (some ⟨Bk, 0, none⟩)] w' fun e w'' => ∃ A c, e = .returned (.slice A 0 c) ∧ Below w'.heap.size w' w'') := fun Bk bm lv gv fv w' hb => by
    refine (names_any Bk bm lv gv fv (st0 []) w' hb (good_st0 (by decide) (fun l h => absurd h List.not_mem_nil))).mono ?_
    rintro e w'' ⟨v, rfl, h1, h2⟩
    obtain ⟨A, c, rfl, _⟩ := h1.open1
    exact ⟨A, c, rfl, h2⟩
  have KST : Hid (∀ w', Calls Tryd.prog 83 #[] w' fun e w'' => ∃ A c, e = .returned (.slice A 6 c) ∧ LadsV w'' (.slice A 6 c) stdL ∧ Below w'.heap.size w' w'') := fun w' => by
    refine (standard_any w').mono ?_
    rintro e w'' ⟨v, rfl, h1, h2⟩
    obtain ⟨A, c, rfl, _⟩ := h1.open
    exact ⟨A, c, rfl, h1, h2⟩
  clear hz
  have HB0 := Lib.hid (Below.refl w.heap.size w)
  go_enter Tryd.func20, Tryd.ntmps20
  go_wp2_with fail
  go_fit (KE.out w)
  rintro e w1 ⟨Bk, bm, lv, gv, fv, rfl, hbv, hb⟩
  have HB1 := Lib.hid (below_then HB0.out hb)
  have HV1 := Lib.hid hbv
  clear hb hbv
  go_wp2_with fail
  go_fit (KW.out _ HB1.out)
  rintro e w2 ⟨rfl, hb⟩
  have HB2 := Lib.hid (below_then HB1.out hb)
  have HV2 := Lib.hid (HV1.out.below hb)
  clear hb
  go_wp2_with fail
  go_fit (KN.out _ _ HB2.out (.inl rfl))
  rintro e w3 ⟨rfl, hb⟩
  have HB3 := Lib.hid (below_then HB2.out hb)
  have HV3 := Lib.hid (HV2.out.below hb)
  clear hb
  have HB4 := Lib.hid (HB3.out.alloc HB3.out.size (.cells #[.slice none 0 0, .map none, .slice none 0 0, .slice none 0 0] 114))
  have HV4 := Lib.hid (HV3.out.below (below_alloc' w3 (.cells #[.slice none 0 0, .map none, .slice none 0 0, .slice none 0 0] 114)))
  go_wp2_with fail
  go_fit (KN.out _ _ HB4.out (.inr ⟨_, rfl, Cel.new w3 114 #[.slice none 0 0, .map none, .slice none 0 0, .slice none 0 0]⟩))
  rintro e w5 ⟨rfl, hb⟩
  have HB5 := Lib.hid (below_then HB4.out hb)
  have HV5 := Lib.hid (HV4.out.below hb)
  clear hb
  go_wp2_with fail
  go_fit (KD.out _ _ _ _ _ _ HV5.out)
  rintro e w6 ⟨rfl, hb⟩
  have HB6 := Lib.hid (below_then HB5.out hb)
  have HV6 := Lib.hid (HV5.out.below hb)
  clear hb
  have HB7 := Lib.hid (HB6.out.alloc HB6.out.size (.cells #[.string ⟨#[]⟩, .slice none 0 0] 33))
  have HV7 := Lib.hid (HV6.out.below (below_alloc' w6 (.cells #[.string ⟨#[]⟩, .slice none 0 0] 33)))
  go_wp2_with fail
  go_fit (KNA.out _ _ _ _ _ _ HV7.out)
  rintro e w8 ⟨NA, nc, rfl, hb⟩
  have HB8 := Lib.hid (below_then HB7.out hb)
  clear hb
  go_wp2_with fail
  go_fit (KST.out _)
  rintro e w9 ⟨A, c, rfl, hl, hb⟩
  have HB9 := Lib.hid (below_then HB8.out hb)
  clear hb
  obtain ⟨_, _, e0, hlc, hcm, hlk⟩ := hl.open
  cases e0
  have HB10 := Lib.hid (HB9.out.alloc HB9.out.size (.cells #[.string ⟨#[99, 111, 117, 110, 116]⟩, .string ⟨#[98, 105, 115, 101, 120]⟩, .string ⟨#[103, 114, 97, 105, 110]⟩, .string ⟨#[97, 114, 101, 97]⟩, .string ⟨#[116, 105, 109, 101]⟩, .string ⟨#[119, 101, 105, 103, 104, 116]⟩] 9))
  have HB11 := Lib.hid (HB10.out.alloc HB10.out.size (.cells #[.string ⟨#[110, 53, 48]⟩, .string ⟨#[110, 53, 54]⟩, .string ⟨#[110, 51, 52]⟩, .string ⟨#[110, 52, 53]⟩, .string ⟨#[110, 53, 55]⟩, .string ⟨#[103, 117, 110]⟩] 9))
  have HB12 := Lib.hid (HB11.out.alloc HB11.out.size (.cells #[.int .i64 36000, .int .i64 7200, .int .i64 9000, .int .i64 1080, .int .i64 360, .int .i64 648000] 3))
  obtain ⟨X, hX⟩ : ∃ X, (((w9.alloc (.cells #[.string ⟨#[99, 111, 117, 110, 116]⟩, .string ⟨#[98, 105, 115, 101, 120]⟩, .string ⟨#[103, 114, 97, 105, 110]⟩, .string ⟨#[97, 114, 101, 97]⟩, .string ⟨#[116, 105, 109, 101]⟩, .string ⟨#[119, 101, 105, 103, 104, 116]⟩] 9)).alloc (.cells #[.string ⟨#[110, 53, 48]⟩, .string ⟨#[110, 53, 54]⟩, .string ⟨#[110, 51, 52]⟩, .string ⟨#[110, 52, 53]⟩, .string ⟨#[110, 53, 55]⟩, .string ⟨#[103, 117, 110]⟩] 9)).alloc (.cells #[.int .i64 36000, .int .i64 7200, .int .i64 9000, .int .i64 1080, .int .i64 360, .int .i64 648000] 3)) = X := ⟨_, rfl⟩
  have hBX : Below w9.heap.size w9 X := by rw [← hX]; repeat (first | exact Below.refl _ _ | refine Below.alloc ?_ (by first | (simp; done) | (simp; omega)) _)
  have hC1 : Cel X w9.heap.size 9 knNames := by rw [← hX]; exact ((Cel.new w9 9 _).alloc _).alloc _
  have hC2 : Cel X (w9.heap.size + 1) 9 knTops := by rw [← hX]; exact (Cel.at _ _ _ _ (by simp)).alloc _
  have hC3 : Cel X (w9.heap.size + 1 + 1) 3 knVals := by rw [← hX]; exact Cel.at _ _ _ _ (by simp)
  have HBX := Lib.hid (show Below w.heap.size w X by rw [← hX]; exact HB12.out)
  have HLX := Lib.hid (hl.below hBX)
  have HT : Hid (∀ i, i < 6 → ∃ (nm : ByteArray) (us : List Un) (top : ByteArray) (val : Int) (m : Nat) (lb lo : Nat) (UA : Option Addr) (ub uo uc : Nat), A = some ⟨lb, lo, none⟩ ∧ UA = some ⟨ub, uo, none⟩ ∧ us.length = m + 1 ∧ m ≤ 11 ∧ m + 1 ≤ uc ∧ valueF nm us top = (val, 0) ∧ checkF nm us = 0 ∧ (nm.size : Int) ≤ 9223372036854775807 ∧
      (∀ w', Below X.heap.size X w' → w'.cell? ⟨lb, lo + i * 2, none⟩ = some (.string nm) ∧ w'.cell? ⟨lb, lo + i * 2 + 1, none⟩ = some (.slice UA (m + 1) uc) ∧ Sl w' 2 (.slice UA (m + 1) uc) (unitsV us) ∧ w'.cell? ⟨ub, uo + m * 2, none⟩ = some (.string top) ∧
        w'.cell? ⟨w9.heap.size, i, none⟩ = some (.string nm) ∧ w'.cell? ⟨w9.heap.size + 1, i, none⟩ = some (.string top) ∧ w'.cell? ⟨w9.heap.size + 1 + 1, i, none⟩ = some (.int .i64 val))) := fun i hi => by
    obtain ⟨nm, us, top, val, m, h1, h2, h3, h4, h5, h6, h7, h8, h9, h10⟩ := kn_tab i hi
    obtain ⟨lb, lo, UA, uc, e, _, c0, c1, hs⟩ := hlk i hi
    obtain ⟨e1, e2⟩ := h1 hi
    rw [e1] at c0
    rw [e2] at c1 hs
    obtain ⟨_, _, _, e3, _, hm2, _, hce⟩ := hs.open2 (by decide)
    cases e3
    obtain ⟨ub, uo, rfl, _, hce⟩ := hce (by omega)
    rw [h2] at c1 hs hm2
    refine ⟨nm, us, top, val, m, lb, lo, _, ub, uo, uc, e, rfl, h2, h3, hm2, h5, h6, h10, fun w' hw => ?_⟩
    have hw2 := below_then hBX hw
    exact ⟨below_cell hw2 c0, below_cell hw2 c1, hs.below hw2, below_cell hw2 (hce _ _ h4), (hC1.below hC1.lt hw).cell i _ h7, (hC2.below hC2.lt hw).cell i _ h8, (hC3.below hC3.lt hw).cell i _ h9⟩
  clear hl hlk
  go_wp2_with fail
  clear hX hBX hC1 hC2 hC3
  go_loopw [10] (fun t wr => ∃ i : Nat, t = .int .i64 i ∧ i ≤ 6 ∧ Hid (Below X.heap.size X wr)) (fun t _ => 6 - (intOf t).toNat)
  case atStart => exact ⟨0, rfl, by omega, Below.refl _ _⟩
  case round =>
    obtain ⟨i, rfl, hi, HB⟩ := hrel
    by_cases hlt : i < 6
    · obtain ⟨nm, us, top, val, m, lb, lo, UA, ub, uo, uc, rfl, rfl, h1, h2, h3, h4, h5, h6, h7⟩ := HT.out i hlt
      have HBW : Hid (∀ w', Below X.heap.size X w' → Below w.heap.size w w') := fun w' hb => below_then HBX.out hb
      have KV : Hid (∀ w', Below X.heap.size X w' → Calls Tryd.prog 29 #[.agg #[.string nm, .slice (some ⟨ub, uo, none⟩) (m + 1) uc], .string top] w' fun e w'' => e = .returned (.tuple #[.int .i64 val, .int .i64 0]) ∧ Below w'.heap.size w' w'') := fun w' hb => by
        have := value_any nm h6 (.agg #[.string nm, .slice (some ⟨ub, uo, none⟩) (m + 1) uc]) us top w' ⟨_, _, _, rfl, (h7 w' hb).2.2.1⟩
        rwa [h4] at this
      have KC : Hid (∀ w', Below X.heap.size X w' → Calls Tryd.prog 31 #[.agg #[.string nm, .slice (some ⟨ub, uo, none⟩) (m + 1) uc]] w' fun e w'' => e = .returned (.int .i64 0) ∧ Below w'.heap.size w' w'') := fun w' hb => by
        have := check_any nm h6 (.agg #[.string nm, .slice (some ⟨ub, uo, none⟩) (m + 1) uc]) us w' ⟨_, _, _, rfl, (h7 w' hb).2.2.1⟩
        rwa [h5] at this
      obtain ⟨L, hL⟩ : ∃ L, m + 1 = L := ⟨_, rfl⟩
      rw [hL] at h3 h7 KV KC
      have HEX : Hid (∀ w', Below X.heap.size X w' → w'.cell? ⟨lb, lo + i * 2, none⟩ = some (.string nm) ∧ w'.cell? ⟨lb, lo + i * 2 + 1, none⟩ = some (.slice (some ⟨ub, uo, none⟩) L uc) ∧ w'.cell? ⟨ub, uo + m * 2, none⟩ = some (.string top) ∧ w'.cell? ⟨w9.heap.size, i, none⟩ = some (.string nm) ∧ w'.cell? ⟨w9.heap.size + 1, i, none⟩ = some (.string top) ∧ w'.cell? ⟨w9.heap.size + 1 + 1, i, none⟩ = some (.int .i64 val)) := fun w' hb => by
        obtain ⟨a1, a2, _, a3, a4, a5, a6⟩ := h7 w' hb
        exact ⟨a1, a2, a3, a4, a5, a6⟩
      have i1 : (0 : Int) ≤ (i : Int) := by omega
      have i2 : (i : Int) < 6 := by omega
      have i3 : (0 : Int) ≤ (m : Int) := by omega
      have i4 : (m : Int) < (L : Int) := by omega
      have kw : IntKind.i64.wrap ((L : Int) - 1) = (m : Int) := by rw [IntKind.wrap_i64]; omega
      have b1 : (nm != nm) = false := by simp [bne]
      have b2 : (top != top) = false := by simp [bne]
      have b3 : (val != val) = false := by simp
      have hLb : L ≤ 12 := by omega
      clear h1 h2 h4 h5 h6 h7 hL
      obtain ⟨x0, x1, x2, x3, x4, x5⟩ := HEX.out wr HB.out
      go_wp2_with fail
      go_region_held3 (fun w' => w'.cell? ⟨lb, lo + i * 2, none⟩ = some (.string nm) ∧ w'.cell? ⟨lb, lo + i * 2 + 1, none⟩ = some (.slice (some ⟨ub, uo, none⟩) L uc) ∧ w'.cell? ⟨ub, uo + m * 2, none⟩ = some (.string top) ∧ w'.cell? ⟨w9.heap.size, i, none⟩ = some (.string nm) ∧ w'.cell? ⟨w9.heap.size + 1, i, none⟩ = some (.string top) ∧ w'.cell? ⟨w9.heap.size + 1 + 1, i, none⟩ = some (.int .i64 val)) (first | exact ⟨f0, f1, f2, f3, f4, f5⟩ | exact ⟨x0, x1, x2, x3, x4, x5⟩ | go_keep)
        ((go_at_call 29; refine (KV.out wr.drew (below_drew HB.out)).mono ?_; rintro e x1w ⟨rfl, hb1⟩; have HB1' := Lib.hid (below_then (below_drew HB.out) hb1); clear hb1; obtain ⟨f0, f1, f2, f3, f4, f5⟩ := HEX.out x1w HB1'.out))
      go_upto_region 18 with fail
      clear x0 x1 x2 x3 x4 x5
      go_region_held3 (fun w' => w'.cell? ⟨lb, lo + i * 2, none⟩ = some (.string nm) ∧ w'.cell? ⟨lb, lo + i * 2 + 1, none⟩ = some (.slice (some ⟨ub, uo, none⟩) L uc) ∧ w'.cell? ⟨ub, uo + m * 2, none⟩ = some (.string top) ∧ w'.cell? ⟨w9.heap.size, i, none⟩ = some (.string nm) ∧ w'.cell? ⟨w9.heap.size + 1, i, none⟩ = some (.string top) ∧ w'.cell? ⟨w9.heap.size + 1 + 1, i, none⟩ = some (.int .i64 val)) (first | exact ⟨y0, y1, y2, y3, y4, y5⟩ | exact ⟨f0, f1, f2, f3, f4, f5⟩ | go_keep)
        ((go_at_call 31; refine (KC.out x1w.drew (below_drew HB1'.out)).mono ?_; rintro e x2w ⟨rfl, hb1⟩; have HB2' := Lib.hid (below_then (below_drew HB1'.out) hb1); clear hb1; obtain ⟨y0, y1, y2, y3, y4, y5⟩ := HEX.out x2w HB2'.out))
      go_wp2
      go_roundw
      case rel => exact ⟨i + 1, by go_num, hlt, HB2'.out⟩
      case measure => simp [intOf]; omega
    · have HBE := Lib.hid (below_then HBX.out HB.out)
      have HLE := Lib.hid (HLX.out.below HB.out)
      go_wp2_with fail
      go_fit (KX.out _ _ HBE.out HLE.out)
      rintro e v1 ⟨rfl, hb⟩
      have HE1 := Lib.hid (below_then HBE.out hb)
      clear hb
      go_wp2_with fail
      go_fit (KL.out _ HE1.out)
      rintro e v2 ⟨rfl, hb⟩
      have HE2 := Lib.hid (below_then HE1.out hb)
      clear hb
      go_wp2
      go_ret
      exact ⟨rfl, HE2.out⟩
end Go.Proofs.YtmibpncmebhbjaaDoor
