/- MetroRoundNear: the walk. -/
import Derived.Test.YtmibpncmebhbjaaDoorP10
import Derived.Test.YtmibpncmebhbjaaDoorLad2
import Derived.Test.YtmibpncmebhbjaaDoorVal3
namespace Go.Proofs.YtmibpncmebhbjaaDoor
open Go Go.RowKit Go.Shelf
attribute [local go_sem] Oper.semAt_some

theorem valid_value (fs : List Int) {i : Nat} (h : i < (validU fs).length) : ∃ v, valueF (⟨#[111, 119, 110]⟩ : ByteArray) (validU fs) (validU fs)[i].sign = (v, 0) ∧ 1 ≤ v ∧ v ≤ 1099511627776 := by
  have hc := valid_ok (nm := (⟨#[111, 119, 110]⟩ : ByteArray)) (by kernel_rfl) fs
  cases hs : sgnAt (validU fs)[i].sign (validU fs) with
  | none =>
    have := List.findIdx?_eq_none_iff.1 hs (validU fs)[i] (List.getElem_mem _)
    simp at this
  | some j =>
    obtain ⟨v, _, e⟩ := valueF_yes hc hs
    have hb := valueF_bd (nm := (⟨#[111, 119, 110]⟩ : ByteArray)) (us := validU fs) (s := (validU fs)[i].sign) (by rw [e])
    rw [e] at hb
    exact ⟨v, e, hb⟩

theorem round_prop {v m : Int} (v1 : 1 ≤ v) (v2 : v ≤ 1099511627776) (m1 : 0 ≤ m) (m2 : m ≤ 1099511627776) :
    ((roundF v 0 m).2 = 0 ∧ 0 ≤ (roundF v 0 m).1 ∧ (roundF v 0 m).1 ≤ 1099511627776 ∧ (roundF v 0 m).1 % v = 0 ∧ 2 * ((roundF v 0 m).1 - m) ≤ v ∧ 2 * (m - (roundF v 0 m).1) < v) ∨
    ((roundF v 0 m).2 = 6 ∧ (roundF v 0 m).1 = 0 ∧ 1099511627776 - v < m) := by
  obtain ⟨_, _, q3, q4, q5⟩ := div_bd m1 v1
  have e1 : (m / v * v) % v = 0 := Int.mul_emod_left _ _
  have e2 : (m / v * v + v) % v = 0 := by rw [Int.add_emod_right]; exact e1
  have e : roundF v 0 m = if v ≤ 2 * (m - m / v * v) then (if m / v * v + v ≤ 1099511627776 then (m / v * v + v, 0) else (0, 6)) else (m / v * v, 0) := by
    rw [roundF, if_pos rfl, rangeB_in m1 m2]; rfl
  rw [e]
  generalize m / v * v = d at *
  by_cases h2 : v ≤ 2 * (m - d)
  · rw [if_pos h2]
    by_cases h3 : d + v ≤ 1099511627776
    · rw [if_pos h3]
      left
      refine ⟨rfl, ?_, h3, e2, ?_, ?_⟩ <;> simp only <;> omega
    · rw [if_neg h3]
      right
      exact ⟨rfl, rfl, by omega⟩
  · rw [if_neg h2]
    left
    refine ⟨rfl, q3, ?_, e1, ?_, ?_⟩ <;> simp only <;> omega

set_option maxRecDepth 100000 in
set_option maxHeartbeats 2000000 in
theorem roundNear_any (fs : List Int) (A : Option Addr) (c : Nat) (n u : Int) (w : World) (hz : Zw w) (hsl : Sl w 1 (.slice A fs.length c) (fs.map (Value.int .i64))) (hfs : ∀ f ∈ fs, Bd f) (hn1 : -9223372036854775808 ≤ n) (hn2 : n ≤ 9223372036854775807) (hu1 : -9223372036854775808 ≤ u) (hu2 : u ≤ 9223372036854775807) :
    Calls Tryd.prog 8 #[.slice A fs.length c, .int .i64 n, .int .i64 u] w fun e w' => e = .returned (.bool true) ∧ Below w.heap.size w w' := by
  have HV := Lib.hid (valid_any (⟨#[111, 119, 110]⟩ : ByteArray) fs _ w hsl hfs)
  have HZ := Lib.hid hz
  have hUl := validU_length fs
  have HVV := Lib.hid (fun i h => valid_value fs (i := i) h)
  have hul1 : 1 ≤ (validU fs).length := by omega
  have hul2 : (validU fs).length ≤ 8 := by omega
  clear hsl hfs hz hUl
  generalize validU fs = us at *
  have hN : bringF n 1099511627777 = n % 1099511627777 := if_neg (by decide)
  have hU : bringF u us.length = u % us.length := if_neg (by omega)
  have HBN := Lib.hid (fun W => bring_any n 1099511627777 W hn1 hn2 (by decide) (by decide))
  have HBU := Lib.hid (fun W => bring_any u us.length W hu1 hu2 (by omega) (by omega))
  rw [hN] at HBN
  rw [hU] at HBU
  have hn3 := Int.emod_nonneg n (show (1099511627777 : Int) ≠ 0 by decide)
  have hn4 := Int.emod_lt_of_pos n (show (0 : Int) < 1099511627777 by decide)
  have hu3 := Int.emod_nonneg u (show (us.length : Int) ≠ 0 by omega)
  have hu4 := Int.emod_lt_of_pos u (show (0 : Int) < us.length by omega)
  clear hN hU hn1 hn2 hu1 hu2
  generalize n % 1099511627777 = m at *
  obtain ⟨i, hi⟩ := Int.eq_ofNat_of_zero_le hu3
  rw [hi] at HBU hu4
  clear hu3 hi
  have hil : i < us.length := by omega
  obtain ⟨v, hv, v1, v2⟩ := HVV.out i hil
  have HVF := Lib.hid hv
  clear hv hu4
  go_enter Tryd.func8, Tryd.ntmps8
  go_wp2_with (first
    | (go_at_call 49; refine HV.out.mono ?_; rintro e w1 ⟨A1, c1, rfl, hs1, hb1⟩; have HB1 := Lib.hid (hb1.alloc hb1.size (.cells #[.string (⟨#[111, 119, 110]⟩ : ByteArray), .slice A1 us.length c1] 33)); have HS1 := Lib.hid (hs1.alloc (.cells #[.string (⟨#[111, 119, 110]⟩ : ByteArray), .slice A1 us.length c1] 33)); have HY1 := Lib.hid (Cel.new w1 33 #[.string (⟨#[111, 119, 110]⟩ : ByteArray), .slice A1 us.length c1]); have a0 := HY1.out.cell 0 (.string (⟨#[111, 119, 110]⟩ : ByteArray)) rfl; have a1 := HY1.out.cell 1 (.slice A1 us.length c1) rfl)
    | (go_at_call 36; refine (HBN.out _).mono ?_; rintro e w2 ⟨rfl, rfl⟩))
  obtain ⟨_, _, _, e, _, _, _, hcl⟩ := HS1.out.open2 (by decide)
  cases e
  obtain ⟨b, o, e, _, hce⟩ := hcl (by omega)
  subst e
  obtain ⟨g0, _⟩ := unitsV_get hil
  have e0 := hce _ _ g0
  clear hce hcl g0
  have hi1 : (i : Int) < (us.length : Int) := by omega
  have hi0 : (0 : Int) ≤ (i : Int) := by omega
  generalize us[i].sign = s at *
  go_quiet ((go_at_call 36; exact quiet_left (HBU.out _)))
  have HR := Lib.hid (round_any (⟨#[111, 119, 110]⟩ : ByteArray) (by decide) (some ⟨b, o, none⟩) c1 us m s)
  rw [HVF.out] at HR
  have hP := round_prop v1 v2 hn3 (by omega : m ≤ 1099511627776)
  simp only at HR
  generalize roundF v 0 m = q at *
  obtain ⟨rn, re⟩ := q
  simp only at HR hP
  have C0 : Hid (∀ w', Sl w' 2 (.slice (some ⟨b, o, none⟩) us.length c1) (unitsV us) → Calls Tryd.prog 29 #[.agg #[.string (⟨#[111, 119, 110]⟩ : ByteArray), .slice (some ⟨b, o, none⟩) us.length c1], .string s] w' fun e w'' => e = .returned (.tuple #[.int .i64 v, .int .i64 0]) ∧ Below w'.heap.size w' w'') := fun w' h => by
    have := value_any (⟨#[111, 119, 110]⟩ : ByteArray) (by decide) (.agg #[.string (⟨#[111, 119, 110]⟩ : ByteArray), .slice (some ⟨b, o, none⟩) us.length c1]) us s w' ⟨_, _, c1, rfl, h⟩
    rw [HVF.out] at this
    exact this
  have C1 : Hid (∀ w', Sl w' 2 (.slice (some ⟨b, o, none⟩) us.length c1) (unitsV us) → Calls Tryd.prog 50 #[.agg #[.string (⟨#[111, 119, 110]⟩ : ByteArray), .slice (some ⟨b, o, none⟩) us.length c1], .int .i64 m, .string s] w' fun e w'' => e = .returned (.tuple #[.int .i64 rn, .int .i64 re]) ∧ Below w'.heap.size w' w'') := fun w' h => HR.out w' h (by omega) (by omega)
  have C2 : Hid (∀ w', Below w.heap.size w w' → Calls Tryd.prog 27 #[] w' fun e w'' => e = .returned (.bool true) ∧ Below w'.heap.size w' w'') := fun w' hb => works_any w' (HZ.out.below hb)
  have hv0 : ¬ v = 0 := by omega
  have HS2 := Lib.hid (HS1.out.drewN nq)
  have HY2 : Hid (Cel ((w1.alloc (.cells #[.string (⟨#[111, 119, 110]⟩ : ByteArray), .slice (some ⟨b, o, none⟩) us.length c1] 33)).drewN nq) w1.heap.size 33 #[.string (⟨#[111, 119, 110]⟩ : ByteArray), .slice (some ⟨b, o, none⟩) us.length c1]) := HY1.out
  have HB2 := Lib.hid (below_drewN HB1.out nq)
  obtain ⟨W2, hW2⟩ : ∃ W2, (w1.alloc (.cells #[.string (⟨#[111, 119, 110]⟩ : ByteArray), .slice (some ⟨b, o, none⟩) us.length c1] 33)).drewN nq = W2 := ⟨_, rfl⟩
  rw [hW2] at HS2 HY2 HB2 ⊢
  clear hW2 a0 a1 e0
  have a0 := HY2.out.cell 0 (.string (⟨#[111, 119, 110]⟩ : ByteArray)) rfl
  have a1 := HY2.out.cell 1 (.slice (some ⟨b, o, none⟩) us.length c1) rfl
  rcases hP with ⟨rfl, r1, r2, r3, r4, r5⟩ | ⟨rfl, rfl, r3⟩
  · have r6 := decide_eq_true r4
    go_wp2_with (first
      | (go_at_call 29; refine (C0.out _ HS2.out).mono ?_; rintro e w3 ⟨rfl, hb3⟩; have HB3 := Lib.hid (HB2.out.trans (hb3.mono HB2.out.size)); have hy3 := HY2.out.below HY2.out.lt hb3; have b0 := hy3.cell 0 (.string (⟨#[111, 119, 110]⟩ : ByteArray)) rfl; have b1 := hy3.cell 1 (.slice (some ⟨b, o, none⟩) us.length c1) rfl; have HS3 := Lib.hid (HS2.out.below hb3))
      | (go_at_call 50; refine (C1.out _ HS3.out).mono ?_; rintro e w4 ⟨rfl, hb4⟩; have HB4 := Lib.hid (HB3.out.trans (hb4.mono HB3.out.size)))
      | (go_at_call 27; refine (C2.out _ HB4.out).mono ?_; rintro e w5 ⟨rfl, hb5⟩))
    go_ret
    exact ⟨rfl, HB4.out.trans (hb5.mono HB4.out.size)⟩
  · go_wp2_with (first
      | (go_at_call 29; refine (C0.out _ HS2.out).mono ?_; rintro e w3 ⟨rfl, hb3⟩; have HB3 := Lib.hid (HB2.out.trans (hb3.mono HB2.out.size)); have hy3 := HY2.out.below HY2.out.lt hb3; have b0 := hy3.cell 0 (.string (⟨#[111, 119, 110]⟩ : ByteArray)) rfl; have b1 := hy3.cell 1 (.slice (some ⟨b, o, none⟩) us.length c1) rfl; have HS3 := Lib.hid (HS2.out.below hb3))
      | (go_at_call 50; refine (C1.out _ HS3.out).mono ?_; rintro e w4 ⟨rfl, hb4⟩; have HB4 := Lib.hid (HB3.out.trans (hb4.mono HB3.out.size)))
      | (go_at_call 27; refine (C2.out _ HB4.out).mono ?_; rintro e w5 ⟨rfl, hb5⟩))
    go_ret
    exact ⟨rfl, HB4.out.trans (hb5.mono HB4.out.size)⟩
end Go.Proofs.YtmibpncmebhbjaaDoor
