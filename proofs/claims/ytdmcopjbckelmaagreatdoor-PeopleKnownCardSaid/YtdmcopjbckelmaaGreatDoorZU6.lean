/- Walks of the reference: Chain. Conditions: those stated. -/
import Derived.Test.YtdmcopjbckelmaaGreatDoorZU1
import Derived.Test.YtdmcopjbckelmaaGreatDoorZU4
import Derived.Test.YtdmcopjbckelmaaGreatDoorZIB
namespace Go.Proofs.YtdmcopjbckelmaaGreatDoor
open Go Go.RowKit Go.Shelf
attribute [local go_sem] Oper.semAt_some

theorem rAt_left {v : Value} {l : List ByteArray} {s : ByteArray} {i : Int} (w : World) (h : Sl w 1 v (namesV l)) (e : atF l s = i) : Calls Tryz.prog 39 #[v, .string s] w fun e w' => e = .returned (.int .i64 i) ∧ w = w' := by
  rw [← e]
  exact (rAt_any v l s w h).mono (fun _ _ q => ⟨q.1, q.2.symm⟩)
/-- The cells of numbers. -/
theorem ints_at {w : World} {v : Value} {l : List Int} {n : Nat} (h : Sl w 1 v (l.map (Value.int .i64))) (hl : l.length = n) : ∃ A c, v = .slice A n c ∧ n ≤ c ∧ (c : Int) ≤ 9223372036854775807 ∧ (0 < n → ∃ b o, A = some ⟨b, o, none⟩ ∧ b < w.heap.size ∧ ∀ (k : Nat) x, l[k]? = some x → w.cell? ⟨b, o + k, none⟩ = some (.int .i64 x)) := by
  obtain ⟨A, m, c, rfl, hl', hc, hm, hcl⟩ := h.open2 (by decide)
  rw [List.length_map] at hl'
  obtain rfl : m = n := by omega
  refine ⟨A, c, rfl, hc, hm, fun hn => ?_⟩
  obtain ⟨b, o, rfl, hb, hce⟩ := hcl hn
  exact ⟨b, o, rfl, hb, fun k x hk => hce k _ (by simp [hk])⟩
set_option maxRecDepth 100000 in
set_option maxHeartbeats 8000000 in
theorem rchain_bad (r : Int) (hr : r = 3 ∨ r = 102) (v : Value) (ds : List De) (a b : ByteArray) (w : World) (h : DeedsV w v ds) (hs : ShortDs ds) (hc : checkDF ds = r) :
    Calls Tryz.prog 20 #[v, .string a, .string b] w fun e w' => e = .returned (.tuple #[.slice none 0 0, .int .i64 r]) ∧ Below w.heap.size w w' := by
  have HK := Lib.hid (rcheckDeeds_any v ds w h hs)
  rw [hc] at HK
  obtain ⟨A, c, rfl, _⟩ := h.shape
  clear h hs hc
  rcases hr with rfl | rfl
  all_goals
    go_enter Tryz.func20, Tryz.ntmps20
    go_wp2_with fail
    refine HK.out.mono ?_
    rintro e w1 ⟨rfl, hb1⟩
    have HB := Lib.hid hb1
    clear hb1
    go_wp2
    go_ret2
    exact ⟨rfl, HB.out⟩
set_option maxRecDepth 100000 in
set_option maxHeartbeats 8000000 in
theorem rchain_good (v : Value) (ds : List De) (a b : ByteArray) (w : World) (h : DeedsV w v ds) (hs : ShortDs ds) (hc : checkDF ds = 0) (E : Int) (L : List ByteArray)
    (hno : ¬ (a ∈ allF ds ∧ b ∈ allF ds) → E = 4 ∧ L = []) (hfar : (∀ d, ¬ Lv (Met ds) b d a) → E = 4 ∧ L = [])
    (hyes : ∀ n, a ∈ allF ds → b ∈ allF ds → Lst (Met ds) b n a → E = 0 ∧ L = a :: chT (knownF ds) (dsI (knownF ds) b (allF ds).length).1 n a) :
    Calls Tryz.prog 20 #[v, .string a, .string b] w fun e w' => Below w.heap.size w w' ∧ ∃ v, e = .returned (.tuple #[v, .int .i64 E]) ∧ Sl w' 1 v (namesV L) := by
  have HK := Lib.hid (rcheckDeeds_any v ds w h hs)
  rw [hc] at HK
  have HP := Lib.hid (fun w' (hw : Below w.heap.size w w') => rpeople_any v ds w' (h.below hw) (checkDF_few hc))
  have HFa := Lib.hid (fun A c w' (hw : Below w.heap.size w w') (hS : Sl w' 1 (.slice A (allF ds).length c) (namesV (allF ds))) (hb : b ∈ allF ds) => rfar_any v ds A c (allF ds) b w' (h.below hw) (checkDF_few hc).1 hS (Nat.le_trans (allF_length (checkDF_few hc)) (by omega)) hb met_all)
  have HTo := Lib.hid (fun r s w' (hw : Below w.heap.size w w') => rtogether_any v ds r s w' (h.below hw) (checkDF_few hc).1)
  have hal := allF_length (checkDF_few hc)
  obtain ⟨Av, cv, rfl, _⟩ := h.shape
  have HNo := Lib.hid hno
  have HNf := Lib.hid hfar
  have HYe := Lib.hid hyes
  clear h hs hc hno hfar hyes
  go_enter Tryz.func20, Tryz.ntmps20
  go_wp2_with fail
  refine HK.out.mono ?_
  rintro e w1 ⟨rfl, hb1⟩
  have HB1 := Lib.hid hb1
  clear hb1 HK
  go_wp2_with fail
  refine (HP.out _ HB1.out).mono ?_
  rintro e w2 ⟨hb2, A2, c2, rfl, hs2⟩
  have HB2 := Lib.hid (HB1.out.trans (hb2.mono HB1.out.size))
  have HS2 := Lib.hid hs2
  clear hb2 hs2 HP
  obtain ⟨ia, hia⟩ : ∃ x, atF (allF ds) a = x := ⟨_, rfl⟩
  obtain ⟨jb, hjb⟩ : ∃ x, atF (allF ds) b = x := ⟨_, rfl⟩
  have HA1 := Lib.hid (rAt_left w2 HS2.out hia)
  have HA2 := Lib.hid (rAt_left w2 HS2.out hjb)
  have hna : ia < 0 ↔ ¬ a ∈ allF ds := by rw [← hia]; exact atF_neg
  have hnb : jb < 0 ↔ ¬ b ∈ allF ds := by rw [← hjb]; exact atF_neg
  have HIa := Lib.hid hia
  clear hia hjb
  go_wp2_with fail
  refine HA1.out.mono ?_
  rintro e wz ⟨rfl, rfl⟩
  by_cases ha : a ∈ allF ds
  · have ha0 : ¬ ia < 0 := fun z => (hna.1 z) ha
    have d0 : decide (ia < 0) = false := decide_eq_false ha0
    by_cases hb : b ∈ allF ds
    · have hb0 : ¬ jb < 0 := fun z => (hnb.1 z) hb
      have d1 : decide (jb < 0) = false := decide_eq_false hb0
      go_wp2_with fail
      refine HA2.out.mono ?_
      rintro e wz ⟨rfl, rfl⟩
      clear hna hnb HA1 HA2
      go_wp2_with fail
      refine (HFa.out A2 c2 _ HB2.out HS2.out hb).mono ?_
      rintro e w3 ⟨hb3, u, out, rfl, hu, hF⟩
      have HB3 := Lib.hid (HB2.out.trans (hb3.mono HB2.out.size))
      have HS3 := Lib.hid (HS2.out.below hb3)
      have HF := Lib.hid hF
      have HHa := Lib.hid ha
      have HHb := Lib.hid hb
      obtain ⟨Af, cf, rfl, hcf1, hcf2, hcf⟩ := ints_at hu hF.1
      clear hb3 hF hu HB2 HS2 HFa ha hb d0 d1 ha0 hb0
      obtain ⟨_, _, ea, ha1, ha2, hcell⟩ := names_at2 HS3.out
      cases ea
      have hpos := List.length_pos_of_mem HHa.out
      obtain ⟨b2, o2, rfl, _, hcell⟩ := hcell hpos
      obtain ⟨bf, of', rfl, _, hcf⟩ := hcf hpos
      have HCp := Lib.hid hcell
      have HCf := Lib.hid hcf
      clear hcell hcf
      obtain ⟨i0, hi0⟩ : ∃ i : Nat, ia = (i : Int) := ⟨posF (allF ds) a, by rw [← HIa.out]; exact atF_mem HHa.out⟩
      subst hi0
      have hg0 : (allF ds)[i0]? = some a := by
        have e1 := atF_mem HHa.out
        rw [HIa.out] at e1
        have e2 : i0 = posF (allF ds) a := by omega
        rw [e2]; exact posF_get HHa.out
      have hil : i0 < (allF ds).length := (List.getElem?_eq_some_iff.1 hg0).1
      have hii : (i0 : Int) < ((allF ds).length : Int) := by omega
      have hi00 : (0 : Int) ≤ (i0 : Int) := by omega
      rcases HF.out.2 i0 a hg0 with ⟨N, hN1, hN2⟩ | ⟨hN1, hN2⟩
      · have x0 := HCf.out i0 _ hN1
        have d2 : decide ((N : Int) < 0) = false := decide_eq_false (by omega)
        have d3 : ¬ (N : Int) < 0 := by omega
        have hNl : N ≤ 832 := by have := hN2.lt HHb.out met_all; omega
        obtain ⟨E0, eL⟩ := HYe.out N HHa.out HHb.out hN2
        subst E0
        subst eL
        have HG0 := Lib.hid hg0
        have HN1 := Lib.hid hN1
        have HN2 := Lib.hid hN2
        clear hg0 hN1 hN2 HIa HNo HNf HYe
        go_upto_region 12 with fail
        clear x0 d2 d3
        have HO0 := Lib.hid (own_lit w3 9 (.string a))
        have HBa := Lib.hid (below_alloc' w3 (.cells #[.string a] 9))
        have HLn0 := Lib.hid (show [a].length + N = N + 1 by rw [List.length_singleton]; omega)
        generalize w3.alloc (.cells #[.string a] 9) = W at *
        go_loopw [10, 12] (fun t10 v12 wr => ∃ (i n : Nat) (s : ByteArray) (l : List ByteArray), t10 = .int .i64 i ∧ Hid ((allF ds)[i]? = some s) ∧ Hid (Lst (Met ds) b n s) ∧ Hid (out[i]? = some (n : Int)) ∧ Hid (l ++ chT (knownF ds) (dsI (knownF ds) b (allF ds).length).1 n s = a :: chT (knownF ds) (dsI (knownF ds) b (allF ds).length).1 N a) ∧ Hid (l.length + n = N + 1) ∧ Hid (wr.ownsRow w3.heap.size 9 1 v12 l.length (namesV l)) ∧ Hid (Below w3.heap.size w3 wr)) (fun t10 _ _ => (out.getD (intOf t10).toNat 0).toNat)
        case atStart => exact ⟨i0, N, a, [a], rfl, HG0.out, HN2.out, HN1.out, rfl, HLn0.out, HO0.out, HBa.out⟩
        case round =>
          clear HG0 HN1 HN2 HO0 HBa HLn0 hil hii hi00
          obtain ⟨i, n, s, l, rfl, HGi, HLi, HXi, HCh, HLn, HO, HB⟩ := hrel
          obtain ⟨wo, hwo⟩ : ∃ wo, wo = wr := ⟨_, rfl⟩
          rw [← hwo] at HO HB ⊢
          clear hwo
          have hil : i < (allF ds).length := (List.getElem?_eq_some_iff.1 HGi.out).1
          have hii : (i : Int) < ((allF ds).length : Int) := by omega
          have hi0 : (0 : Int) ≤ (i : Int) := by omega
          have hln : l.length ≤ 900 := by have := HLn.out; omega
          cases n with
          | zero =>
            have x0 := below_cell HB.out (HCf.out i _ HXi.out)
            have HE := Lib.hid (show l ++ [] = _ from HCh.out)
            rw [List.append_nil] at HE
            have HSe := Lib.hid (Sl.of_own HO.out)
            rw [HE.out] at HSe
            have HBe := Lib.hid (HB3.out.trans (HB.out.mono HB3.out.size))
            have d2 : decide ((0 : Int) < ((0 : Nat) : Int)) = false := rfl
            clear HE HCh HO HB
            go_wp2
            go_ret2
            exact ⟨HBe.out, u12, rfl, HSe.out⟩
          | succ m =>
            obtain ⟨X, hX⟩ : ∃ X : Int, ((m + 1 : Nat) : Int) = X := ⟨_, rfl⟩
            have HXm := Lib.hid hX
            have hX0 : 0 < X := by omega
            have hX1 : X ≤ 900 := by have := HLn.out; omega
            have hwx : IntKind.i64.wrap (X - 1) = (m : Int) := by rw [IntWalk.i64_in _ (by omega)]; omega
            have HXi2 := Lib.hid HXi.out
            rw [hX] at HXi2
            clear hX
            have d2 : decide ((0 : Int) < X) = true := decide_eq_true hX0
            have x0 := below_cell HB.out (HCf.out i _ HXi2.out)
            have HB0 := Lib.hid (Below.refl wo.heap.size wo)
            go_wp2
            clear x0 d2
            go_loopw [10, 13] (fun t10 t13 wr => ∃ k : Nat, t13 = .int .i64 k ∧ t10 = .int .i64 i ∧ k ≤ (allF ds).length ∧ Hid (∀ j r, j < k → (allF ds)[j]? = some r → Lst (Met ds) b m r → ¬ Met ds s r) ∧ Hid (Below wo.heap.size wo wr)) (fun _ t13 _ => (allF ds).length - (intOf t13).toNat)
            case atStart => exact ⟨0, rfl, rfl, by omega, fun j r hj => absurd hj (Nat.not_lt_zero _), HB0.out⟩
            case round =>
              clear HB0
              obtain ⟨k, rfl, rfl, hk, HN, HU⟩ := hrel
              by_cases hlt : k < (allF ds).length
              · have hki : (k : Int) < ((allF ds).length : Int) := by omega
                have hk0 : (0 : Int) ≤ (k : Int) := by omega
                obtain ⟨r, hgk⟩ : ∃ r, (allF ds)[k]? = some r := ⟨_, List.getElem?_eq_getElem hlt⟩
                obtain ⟨Y, hY⟩ : ∃ Y, out[k]? = some Y := ⟨_, List.getElem?_eq_getElem (by rw [HF.out.1]; exact hlt)⟩
                have HBu := Lib.hid (HB.out.trans (HU.out.mono HB.out.size))
                have HBw := Lib.hid (HB3.out.trans (HBu.out.mono HB3.out.size))
                have x0 := below_cell HBu.out (HCf.out i _ HXi2.out)
                have y0 := below_cell HBu.out (HCf.out k _ hY)
                have c1 := below_cell HBu.out (HCp.out i _ HGi.out)
                have c2 := below_cell HBu.out (HCp.out k _ hgk)
                have HLev := Lib.hid (show Y = (m : Int) ↔ Lst (Met ds) b m r from by
                  rcases HF.out.2 k r hgk with ⟨d, q1, q2⟩ | ⟨q1, q2⟩
                  · rw [hY] at q1
                    have q3 : Y = (d : Int) := by simpa using q1
                    exact ⟨fun z => by have : d = m := by omega
                                       rw [← this]; exact q2, fun z => by have := q2.uniq z; omega⟩
                  · rw [hY] at q1
                    have q3 : Y = -1 := by simpa using q1
                    exact ⟨fun z => by omega, fun z => absurd z.1 (q2 m)⟩)
                have HTs := Lib.hid (HTo.out s r)
                have HMt := Lib.hid (show 0 < togF ds s r ↔ Met ds s r from tog_met)
                have HGk := Lib.hid hgk
                have HYk := Lib.hid hY
                have HNx := Lib.hid (fun (hn : ¬ (Lst (Met ds) b m r ∧ Met ds s r)) => show ∀ j r, j < k + 1 → (allF ds)[j]? = some r → Lst (Met ds) b m r → ¬ Met ds s r from fun j x hj hx h1 h2 => by
                  rcases Nat.lt_succ_iff_lt_or_eq.1 hj with z | z
                  · exact HN.out j x z hx h1 h2
                  · rw [z, HGk.out] at hx; cases hx; exact hn ⟨h1, h2⟩)
                generalize togF ds s r = T at *
                clear hgk hY
                by_cases hym : Y = (m : Int)
                · subst hym
                  have q1 : ((m : Int) == (m : Int)) = true := by simp
                  have q1' : (m == m) = true := by simp
                  have HLk := Lib.hid (HLev.out.1 rfl)
                  clear HLev
                  by_cases ht : 0 < T
                  · have d1 : decide ((0 : Int) < (T : Int)) = true := decide_eq_true (by omega)
                    have d2 : decide (0 < T) = true := decide_eq_true (by omega)
                    go_upto_region 16 with fail
                    refine wp_region_held_drew (S := fun w' => Below wr.heap.size wr w') (by kernel_rfl) (below_drew (Below.refl _ _)) (fun hHeld => ?_)
                    refine wpAnyH_takeD (i := 0) (v := ?_) 54 rfl (by kernel_rfl) (by kernel_rfl) (by kernel_rfl) (fun _ _ _ h => h) (Or.inl ⟨by rfl, ?_⟩) (by assumption) rfl ?_
                    rotate_left
                    · intro w' hSw
                      have x0 := below_cell hSw x0; have y0 := below_cell hSw y0; have c1 := below_cell hSw c1; have c2 := below_cell hSw c2
                      go_simp <;> with_reducible rfl
                    simp only [List.setIfInBounds_toArray, List.set_cons_succ, List.set_cons_zero]
                    refine wpAnyH_takeD (i := 1) (v := ?_) 55 rfl (by kernel_rfl) (by kernel_rfl) (by kernel_rfl) (fun _ _ _ h => h) (Or.inl ⟨by rfl, ?_⟩) (by assumption) rfl ?_
                    rotate_left
                    · intro w' hSw
                      have x0 := below_cell hSw x0; have y0 := below_cell hSw y0; have c1 := below_cell hSw c1; have c2 := below_cell hSw c2
                      go_simp <;> with_reducible rfl
                    simp only [List.setIfInBounds_toArray, List.set_cons_succ, List.set_cons_zero]
                    refine wpAnyH_takeD (i := 2) (v := ?_) 56 rfl (by kernel_rfl) (by kernel_rfl) (by kernel_rfl) (fun _ _ _ h => h) (Or.inl ⟨by rfl, ?_⟩) (by assumption) rfl ?_
                    rotate_left
                    · intro w' hSw
                      have x0 := below_cell hSw x0; have y0 := below_cell hSw y0; have c1 := below_cell hSw c1; have c2 := below_cell hSw c2
                      go_simp <;> with_reducible rfl
                    simp only [List.setIfInBounds_toArray, List.set_cons_succ, List.set_cons_zero]
                    refine wpAnyH_takeD (i := 3) (v := ?_) 57 rfl (by kernel_rfl) (by kernel_rfl) (by kernel_rfl) (fun _ _ _ h => h) (Or.inl ⟨by rfl, ?_⟩) (by assumption) rfl ?_
                    rotate_left
                    · intro w' hSw
                      have x0 := below_cell hSw x0; have y0 := below_cell hSw y0; have c1 := below_cell hSw c1; have c2 := below_cell hSw c2
                      go_simp <;> with_reducible rfl
                    simp only [List.setIfInBounds_toArray, List.set_cons_succ, List.set_cons_zero]
                    refine wpAnyH_takeD (i := 4) (v := ?_) 58 rfl (by kernel_rfl) (by kernel_rfl) (by kernel_rfl) (fun _ _ _ h => h) (Or.inl ⟨by rfl, ?_⟩) (by assumption) rfl ?_
                    rotate_left
                    · intro w' hSw
                      have x0 := below_cell hSw x0; have y0 := below_cell hSw y0; have c1 := below_cell hSw c1; have c2 := below_cell hSw c2
                      go_simp <;> with_reducible rfl
                    simp only [List.setIfInBounds_toArray, List.set_cons_succ, List.set_cons_zero]
                    refine wpAnyH_takeD (i := 5) (v := ?_) 59 rfl (by kernel_rfl) (by kernel_rfl) (by kernel_rfl) (fun _ _ _ h => h) (Or.inl ⟨by rfl, ?_⟩) (by assumption) rfl ?_
                    rotate_left
                    · intro w' hSw
                      have x0 := below_cell hSw x0; have y0 := below_cell hSw y0; have c1 := below_cell hSw c1; have c2 := below_cell hSw c2
                      go_simp <;> with_reducible rfl
                    simp only [List.setIfInBounds_toArray, List.set_cons_succ, List.set_cons_zero]
                    refine wpAnyH_takeD (i := 6) (v := ?_) 60 rfl (by kernel_rfl) (by kernel_rfl) (by kernel_rfl) (fun _ _ _ h => h) (Or.inl ⟨by rfl, ?_⟩) (by assumption) rfl ?_
                    rotate_left
                    · intro w' hSw
                      have x0 := below_cell hSw x0; have y0 := below_cell hSw y0; have c1 := below_cell hSw c1; have c2 := below_cell hSw c2
                      go_simp <;> with_reducible rfl
                    simp only [List.setIfInBounds_toArray, List.set_cons_succ, List.set_cons_zero]
                    refine wpAnyH_takeD (i := 7) (v := ?_) 61 rfl (by kernel_rfl) (by kernel_rfl) (by kernel_rfl) (fun _ _ _ h => h) (Or.inl ⟨by rfl, ?_⟩) (by assumption) rfl ?_
                    rotate_left
                    · intro w' hSw
                      have x0 := below_cell hSw x0; have y0 := below_cell hSw y0; have c1 := below_cell hSw c1; have c2 := below_cell hSw c2
                      go_simp <;> with_reducible rfl
                    simp only [List.setIfInBounds_toArray, List.set_cons_succ, List.set_cons_zero]
                    refine wpAnyH_takeD (i := 8) (v := ?_) 62 rfl (by kernel_rfl) (by kernel_rfl) (by kernel_rfl) (fun _ _ _ h => h) (Or.inl ⟨by rfl, ?_⟩) (by assumption) rfl ?_
                    rotate_left
                    · intro w' hSw
                      have x0 := below_cell hSw x0; have y0 := below_cell hSw y0; have c1 := below_cell hSw c1; have c2 := below_cell hSw c2
                      go_simp <;> with_reducible rfl
                    simp only [List.setIfInBounds_toArray, List.set_cons_succ, List.set_cons_zero]
                    refine wpAnyH_takeD (i := 9) (v := ?_) 63 rfl (by kernel_rfl) (by kernel_rfl) (by kernel_rfl) (fun _ _ _ h => h) (Or.inl ⟨by rfl, ?_⟩) (by assumption) rfl ?_
                    rotate_left
                    · intro w' hSw
                      have x0 := below_cell hSw x0; have y0 := below_cell hSw y0; have c1 := below_cell hSw c1; have c2 := below_cell hSw c2
                      go_simp <;> with_reducible rfl
                    simp only [List.setIfInBounds_toArray, List.set_cons_succ, List.set_cons_zero]
                    refine wpAnyH_takeD (i := 10) (v := ?_) 64 rfl (by kernel_rfl) (by kernel_rfl) (by kernel_rfl) (fun _ _ _ h => h) (Or.inl ⟨by rfl, ?_⟩) (by assumption) rfl ?_
                    rotate_left
                    · intro w' hSw
                      have x0 := below_cell hSw x0; have y0 := below_cell hSw y0; have c1 := below_cell hSw c1; have c2 := below_cell hSw c2
                      go_simp <;> with_reducible rfl
                    simp only [List.setIfInBounds_toArray, List.set_cons_succ, List.set_cons_zero]
                    refine wpAnyH_takeD (i := 11) (v := ?_) 65 rfl (by kernel_rfl) (by kernel_rfl) (by kernel_rfl) (fun _ _ _ h => h) (Or.inl ⟨by rfl, ?_⟩) (by assumption) rfl ?_
                    rotate_left
                    · intro w' hSw
                      have x0 := below_cell hSw x0; have y0 := below_cell hSw y0; have c1 := below_cell hSw c1; have c2 := below_cell hSw c2
                      go_simp <;> with_reducible rfl
                    simp only [List.setIfInBounds_toArray, List.set_cons_succ, List.set_cons_zero]
                    refine wpAnyH_takeD (i := 12) (v := ?_) 66 rfl (by kernel_rfl) (by kernel_rfl) (by kernel_rfl) (fun _ _ _ h => h) (Or.inl ⟨by rfl, ?_⟩) (by assumption) rfl ?_
                    rotate_left
                    · intro w' hSw
                      have x0 := below_cell hSw x0; have y0 := below_cell hSw y0; have c1 := below_cell hSw c1; have c2 := below_cell hSw c2
                      go_simp <;> with_reducible rfl
                    simp only [List.setIfInBounds_toArray, List.set_cons_succ, List.set_cons_zero]
                    refine wpAnyH_takeD (i := 13) (v := ?_) 67 rfl (by kernel_rfl) (by kernel_rfl) (by kernel_rfl) (fun _ _ _ h => h) (Or.inl ⟨by rfl, ?_⟩) (by assumption) rfl ?_
                    rotate_left
                    · intro w' hSw
                      have x0 := below_cell hSw x0; have y0 := below_cell hSw y0; have c1 := below_cell hSw c1; have c2 := below_cell hSw c2
                      go_simp <;> with_reducible rfl
                    simp only [List.setIfInBounds_toArray, List.set_cons_succ, List.set_cons_zero]
                    refine wpAnyH_takeD (i := 14) (v := ?_) 68 rfl (by kernel_rfl) (by kernel_rfl) (by kernel_rfl) (fun _ _ _ h => h) (Or.inl ⟨by rfl, ?_⟩) (by assumption) rfl ?_
                    rotate_left
                    · intro w' hSw
                      have x0 := below_cell hSw x0; have y0 := below_cell hSw y0; have c1 := below_cell hSw c1; have c2 := below_cell hSw c2
                      go_simp <;> with_reducible rfl
                    simp only [List.setIfInBounds_toArray, List.set_cons_succ, List.set_cons_zero]
                    refine wpAnyH_takeD (i := 15) (v := ?_) 69 rfl (by kernel_rfl) (by kernel_rfl) (by kernel_rfl) (fun _ _ _ h => h) (Or.inl ⟨by rfl, ?_⟩) (by assumption) rfl ?_
                    rotate_left
                    · intro w' hSw
                      have x0 := below_cell hSw x0; have y0 := below_cell hSw y0; have c1 := below_cell hSw c1; have c2 := below_cell hSw c2
                      go_simp <;> with_reducible rfl
                    simp only [List.setIfInBounds_toArray, List.set_cons_succ, List.set_cons_zero]
                    refine wpAnyH_takeD (i := 16) (v := ?_) 70 rfl (by kernel_rfl) (by kernel_rfl) (by kernel_rfl) (fun _ _ _ h => h) (Or.inl ⟨by rfl, ?_⟩) (by assumption) rfl ?_
                    rotate_left
                    · intro w' hSw
                      have x0 := below_cell hSw x0; have y0 := below_cell hSw y0; have c1 := below_cell hSw c1; have c2 := below_cell hSw c2
                      go_simp <;> with_reducible rfl
                    simp only [List.setIfInBounds_toArray, List.set_cons_succ, List.set_cons_zero]
                    refine wpAnyH_takeD (i := 17) (v := ?_) 71 rfl (by kernel_rfl) (by kernel_rfl) (by kernel_rfl) (fun _ _ _ h => h) (Or.inl ⟨by rfl, ?_⟩) (by assumption) rfl ?_
                    rotate_left
                    · intro w' hSw
                      have x0 := below_cell hSw x0; have y0 := below_cell hSw y0; have c1 := below_cell hSw c1; have c2 := below_cell hSw c2
                      go_simp <;> with_reducible rfl
                    simp only [List.setIfInBounds_toArray, List.set_cons_succ, List.set_cons_zero]
                    refine wpAnyH_takeD (i := 18) (v := ?_) 72 rfl (by kernel_rfl) (by kernel_rfl) (by kernel_rfl) (fun _ _ _ h => h) (Or.inl ⟨by rfl, ?_⟩) (by assumption) rfl ?_
                    rotate_left
                    · intro w' hSw
                      have x0 := below_cell hSw x0; have y0 := below_cell hSw y0; have c1 := below_cell hSw c1; have c2 := below_cell hSw c2
                      go_simp <;> with_reducible rfl
                    simp only [List.setIfInBounds_toArray, List.set_cons_succ, List.set_cons_zero]
                    refine wpAnyH_takeD (i := 19) (v := ?_) 73 rfl (by kernel_rfl) (by kernel_rfl) (by kernel_rfl) (fun _ _ _ h => h) (Or.inl ⟨by rfl, ?_⟩) (by assumption) rfl ?_
                    rotate_left
                    · intro w' hSw
                      have x0 := below_cell hSw x0; have y0 := below_cell hSw y0; have c1 := below_cell hSw c1; have c2 := below_cell hSw c2
                      go_simp <;> with_reducible rfl
                    simp only [List.setIfInBounds_toArray, List.set_cons_succ, List.set_cons_zero]
                    refine wpAnyH_ready (rs := [20]) (by kernel_rfl) (by simp) ?_
                    refine AllReadyH.cons (o := _) rfl (fun K hK => ?_) AllReadyH.nil
                    go_simp
                    go_at_call 70
                    refine (HTs.out _ (HBw.out.trans (hHeld.mono HBw.out.size))).mono ?_
                    rintro e w41 ⟨rfl, hb41⟩
                    have HV41 := Lib.hid (hHeld.trans (hb41.mono hHeld.size))
                    clear hb41
                    refine hK.out _ _ HV41.out (fun hHeld2 => ?_)
                    clear hK K
                    refine wpAnyH_takeD (i := 21) (v := ?_) 75 rfl (by kernel_rfl) (by kernel_rfl) (by kernel_rfl) (fun _ _ _ h => h) (Or.inl ⟨by rfl, ?_⟩) (by assumption) rfl ?_
                    rotate_left
                    · intro w' hSw
                      have x0 := below_cell hSw x0; have y0 := below_cell hSw y0; have c1 := below_cell hSw c1; have c2 := below_cell hSw c2
                      go_simp <;> with_reducible rfl
                    simp only [List.setIfInBounds_toArray, List.set_cons_succ, List.set_cons_zero]
                    refine wpAnyH_takeD (i := 22) (v := ?_) 76 rfl (by kernel_rfl) (by kernel_rfl) (by kernel_rfl) (fun _ _ _ h => h) (Or.inl ⟨by rfl, ?_⟩) (by assumption) rfl ?_
                    rotate_left
                    · intro w' hSw
                      have x0 := below_cell hSw x0; have y0 := below_cell hSw y0; have c1 := below_cell hSw c1; have c2 := below_cell hSw c2
                      go_simp <;> with_reducible rfl
                    simp only [List.setIfInBounds_toArray, List.set_cons_succ, List.set_cons_zero]
                    refine wpAnyH_done (by kernel_rfl) ?_ _
                    clear hHeld hHeld2 x0 y0 c1 c2 d1 d2 q1 q1'
                    have HV := Lib.hid (HU.out.trans (HV41.out.mono HU.out.size))
                    have HVb := Lib.hid (HB.out.trans (HV.out.mono HB.out.size))
                    have HOv := Lib.hid (own_below HO.out HV.out)
                    have HMe := Lib.hid (HMt.out.1 ht)
                    have HCh2 := Lib.hid (show (l ++ [r]) ++ chT (knownF ds) (dsI (knownF ds) b (allF ds).length).1 m r = a :: chT (knownF ds) (dsI (knownF ds) b (allF ds).length).1 N a by rw [← HCh.out, chT_next (dsI_over HHb.out) HLi.out HGk.out HLk.out HMe.out HN.out]; simp)
                    have HLn2 := Lib.hid (show (l ++ [r]).length + m = N + 1 by have := HLn.out; rw [List.length_append, List.length_singleton]; omega)
                    have c2 := below_cell HVb.out (HCp.out k _ HGk.out)
                    have HOa := Lib.hid (HOv.out.alloc (.cells #[.string r] 9))
                    have HBa := Lib.hid (HVb.out.alloc HVb.out.size (.cells #[.string r] 9))
                    have HSb := Lib.hid (Sl.new (s := 1) w41 9 1 1 #[.string r] rfl (Nat.le_refl _) (by decide))
                    clear HV41 HV HVb HOv HO HB HU
                    go_wp2_with (at_builtin; refine appStr _ _ rfl rfl rfl rfl HOa.out HSb.out (by simp [Value.oneCell']) (N := l.length + 1) (by simp) (by omega) HBa.out.size ?_; intro A9 c9 w9 hap)
                    have HB9 := Lib.hid (below_of_own hap.grown HOa.out HBa.out (Nat.le_refl _))
                    have HO9 := Lib.hid (show w9.ownsRow w3.heap.size 9 1 (.slice A9 (l.length + 1) c9) (l ++ [r]).length (namesV (l ++ [r])) by rw [List.length_append, namesV_append]; exact hap.own)
                    clear hap c2 HOa HBa HSb
                    go_wp2
                    exact ⟨⟨k, m, r, _, rfl, HGk.out, HLk.out, HYk.out, HCh2.out, HLn2.out, HO9.out, HB9.out⟩, by
                      simp only [intOf, Int.toNat_natCast, List.getD_eq_getElem?_getD, HYk.out, HXi2.out, Option.getD_some]
                      have := HXm.out
                      omega⟩
                  · have d1 : decide ((0 : Int) < (T : Int)) = false := decide_eq_false (by omega)
                    have d2 : decide (0 < T) = false := decide_eq_false (by omega)
                    go_upto_region 16 with fail
                    refine wp_region_held_drew (S := fun w' => Below wr.heap.size wr w') (by kernel_rfl) (below_drew (Below.refl _ _)) (fun hHeld => ?_)
                    refine wpAnyH_takeD (i := 0) (v := ?_) 54 rfl (by kernel_rfl) (by kernel_rfl) (by kernel_rfl) (fun _ _ _ h => h) (Or.inl ⟨by rfl, ?_⟩) (by assumption) rfl ?_
                    rotate_left
                    · intro w' hSw
                      have x0 := below_cell hSw x0; have y0 := below_cell hSw y0; have c1 := below_cell hSw c1; have c2 := below_cell hSw c2
                      go_simp <;> with_reducible rfl
                    simp only [List.setIfInBounds_toArray, List.set_cons_succ, List.set_cons_zero]
                    refine wpAnyH_takeD (i := 1) (v := ?_) 55 rfl (by kernel_rfl) (by kernel_rfl) (by kernel_rfl) (fun _ _ _ h => h) (Or.inl ⟨by rfl, ?_⟩) (by assumption) rfl ?_
                    rotate_left
                    · intro w' hSw
                      have x0 := below_cell hSw x0; have y0 := below_cell hSw y0; have c1 := below_cell hSw c1; have c2 := below_cell hSw c2
                      go_simp <;> with_reducible rfl
                    simp only [List.setIfInBounds_toArray, List.set_cons_succ, List.set_cons_zero]
                    refine wpAnyH_takeD (i := 2) (v := ?_) 56 rfl (by kernel_rfl) (by kernel_rfl) (by kernel_rfl) (fun _ _ _ h => h) (Or.inl ⟨by rfl, ?_⟩) (by assumption) rfl ?_
                    rotate_left
                    · intro w' hSw
                      have x0 := below_cell hSw x0; have y0 := below_cell hSw y0; have c1 := below_cell hSw c1; have c2 := below_cell hSw c2
                      go_simp <;> with_reducible rfl
                    simp only [List.setIfInBounds_toArray, List.set_cons_succ, List.set_cons_zero]
                    refine wpAnyH_takeD (i := 3) (v := ?_) 57 rfl (by kernel_rfl) (by kernel_rfl) (by kernel_rfl) (fun _ _ _ h => h) (Or.inl ⟨by rfl, ?_⟩) (by assumption) rfl ?_
                    rotate_left
                    · intro w' hSw
                      have x0 := below_cell hSw x0; have y0 := below_cell hSw y0; have c1 := below_cell hSw c1; have c2 := below_cell hSw c2
                      go_simp <;> with_reducible rfl
                    simp only [List.setIfInBounds_toArray, List.set_cons_succ, List.set_cons_zero]
                    refine wpAnyH_takeD (i := 4) (v := ?_) 58 rfl (by kernel_rfl) (by kernel_rfl) (by kernel_rfl) (fun _ _ _ h => h) (Or.inl ⟨by rfl, ?_⟩) (by assumption) rfl ?_
                    rotate_left
                    · intro w' hSw
                      have x0 := below_cell hSw x0; have y0 := below_cell hSw y0; have c1 := below_cell hSw c1; have c2 := below_cell hSw c2
                      go_simp <;> with_reducible rfl
                    simp only [List.setIfInBounds_toArray, List.set_cons_succ, List.set_cons_zero]
                    refine wpAnyH_takeD (i := 5) (v := ?_) 59 rfl (by kernel_rfl) (by kernel_rfl) (by kernel_rfl) (fun _ _ _ h => h) (Or.inl ⟨by rfl, ?_⟩) (by assumption) rfl ?_
                    rotate_left
                    · intro w' hSw
                      have x0 := below_cell hSw x0; have y0 := below_cell hSw y0; have c1 := below_cell hSw c1; have c2 := below_cell hSw c2
                      go_simp <;> with_reducible rfl
                    simp only [List.setIfInBounds_toArray, List.set_cons_succ, List.set_cons_zero]
                    refine wpAnyH_takeD (i := 6) (v := ?_) 60 rfl (by kernel_rfl) (by kernel_rfl) (by kernel_rfl) (fun _ _ _ h => h) (Or.inl ⟨by rfl, ?_⟩) (by assumption) rfl ?_
                    rotate_left
                    · intro w' hSw
                      have x0 := below_cell hSw x0; have y0 := below_cell hSw y0; have c1 := below_cell hSw c1; have c2 := below_cell hSw c2
                      go_simp <;> with_reducible rfl
                    simp only [List.setIfInBounds_toArray, List.set_cons_succ, List.set_cons_zero]
                    refine wpAnyH_takeD (i := 7) (v := ?_) 61 rfl (by kernel_rfl) (by kernel_rfl) (by kernel_rfl) (fun _ _ _ h => h) (Or.inl ⟨by rfl, ?_⟩) (by assumption) rfl ?_
                    rotate_left
                    · intro w' hSw
                      have x0 := below_cell hSw x0; have y0 := below_cell hSw y0; have c1 := below_cell hSw c1; have c2 := below_cell hSw c2
                      go_simp <;> with_reducible rfl
                    simp only [List.setIfInBounds_toArray, List.set_cons_succ, List.set_cons_zero]
                    refine wpAnyH_takeD (i := 8) (v := ?_) 62 rfl (by kernel_rfl) (by kernel_rfl) (by kernel_rfl) (fun _ _ _ h => h) (Or.inl ⟨by rfl, ?_⟩) (by assumption) rfl ?_
                    rotate_left
                    · intro w' hSw
                      have x0 := below_cell hSw x0; have y0 := below_cell hSw y0; have c1 := below_cell hSw c1; have c2 := below_cell hSw c2
                      go_simp <;> with_reducible rfl
                    simp only [List.setIfInBounds_toArray, List.set_cons_succ, List.set_cons_zero]
                    refine wpAnyH_takeD (i := 9) (v := ?_) 63 rfl (by kernel_rfl) (by kernel_rfl) (by kernel_rfl) (fun _ _ _ h => h) (Or.inl ⟨by rfl, ?_⟩) (by assumption) rfl ?_
                    rotate_left
                    · intro w' hSw
                      have x0 := below_cell hSw x0; have y0 := below_cell hSw y0; have c1 := below_cell hSw c1; have c2 := below_cell hSw c2
                      go_simp <;> with_reducible rfl
                    simp only [List.setIfInBounds_toArray, List.set_cons_succ, List.set_cons_zero]
                    refine wpAnyH_takeD (i := 10) (v := ?_) 64 rfl (by kernel_rfl) (by kernel_rfl) (by kernel_rfl) (fun _ _ _ h => h) (Or.inl ⟨by rfl, ?_⟩) (by assumption) rfl ?_
                    rotate_left
                    · intro w' hSw
                      have x0 := below_cell hSw x0; have y0 := below_cell hSw y0; have c1 := below_cell hSw c1; have c2 := below_cell hSw c2
                      go_simp <;> with_reducible rfl
                    simp only [List.setIfInBounds_toArray, List.set_cons_succ, List.set_cons_zero]
                    refine wpAnyH_takeD (i := 11) (v := ?_) 65 rfl (by kernel_rfl) (by kernel_rfl) (by kernel_rfl) (fun _ _ _ h => h) (Or.inl ⟨by rfl, ?_⟩) (by assumption) rfl ?_
                    rotate_left
                    · intro w' hSw
                      have x0 := below_cell hSw x0; have y0 := below_cell hSw y0; have c1 := below_cell hSw c1; have c2 := below_cell hSw c2
                      go_simp <;> with_reducible rfl
                    simp only [List.setIfInBounds_toArray, List.set_cons_succ, List.set_cons_zero]
                    refine wpAnyH_takeD (i := 12) (v := ?_) 66 rfl (by kernel_rfl) (by kernel_rfl) (by kernel_rfl) (fun _ _ _ h => h) (Or.inl ⟨by rfl, ?_⟩) (by assumption) rfl ?_
                    rotate_left
                    · intro w' hSw
                      have x0 := below_cell hSw x0; have y0 := below_cell hSw y0; have c1 := below_cell hSw c1; have c2 := below_cell hSw c2
                      go_simp <;> with_reducible rfl
                    simp only [List.setIfInBounds_toArray, List.set_cons_succ, List.set_cons_zero]
                    refine wpAnyH_takeD (i := 13) (v := ?_) 67 rfl (by kernel_rfl) (by kernel_rfl) (by kernel_rfl) (fun _ _ _ h => h) (Or.inl ⟨by rfl, ?_⟩) (by assumption) rfl ?_
                    rotate_left
                    · intro w' hSw
                      have x0 := below_cell hSw x0; have y0 := below_cell hSw y0; have c1 := below_cell hSw c1; have c2 := below_cell hSw c2
                      go_simp <;> with_reducible rfl
                    simp only [List.setIfInBounds_toArray, List.set_cons_succ, List.set_cons_zero]
                    refine wpAnyH_takeD (i := 14) (v := ?_) 68 rfl (by kernel_rfl) (by kernel_rfl) (by kernel_rfl) (fun _ _ _ h => h) (Or.inl ⟨by rfl, ?_⟩) (by assumption) rfl ?_
                    rotate_left
                    · intro w' hSw
                      have x0 := below_cell hSw x0; have y0 := below_cell hSw y0; have c1 := below_cell hSw c1; have c2 := below_cell hSw c2
                      go_simp <;> with_reducible rfl
                    simp only [List.setIfInBounds_toArray, List.set_cons_succ, List.set_cons_zero]
                    refine wpAnyH_takeD (i := 15) (v := ?_) 69 rfl (by kernel_rfl) (by kernel_rfl) (by kernel_rfl) (fun _ _ _ h => h) (Or.inl ⟨by rfl, ?_⟩) (by assumption) rfl ?_
                    rotate_left
                    · intro w' hSw
                      have x0 := below_cell hSw x0; have y0 := below_cell hSw y0; have c1 := below_cell hSw c1; have c2 := below_cell hSw c2
                      go_simp <;> with_reducible rfl
                    simp only [List.setIfInBounds_toArray, List.set_cons_succ, List.set_cons_zero]
                    refine wpAnyH_takeD (i := 16) (v := ?_) 70 rfl (by kernel_rfl) (by kernel_rfl) (by kernel_rfl) (fun _ _ _ h => h) (Or.inl ⟨by rfl, ?_⟩) (by assumption) rfl ?_
                    rotate_left
                    · intro w' hSw
                      have x0 := below_cell hSw x0; have y0 := below_cell hSw y0; have c1 := below_cell hSw c1; have c2 := below_cell hSw c2
                      go_simp <;> with_reducible rfl
                    simp only [List.setIfInBounds_toArray, List.set_cons_succ, List.set_cons_zero]
                    refine wpAnyH_takeD (i := 17) (v := ?_) 71 rfl (by kernel_rfl) (by kernel_rfl) (by kernel_rfl) (fun _ _ _ h => h) (Or.inl ⟨by rfl, ?_⟩) (by assumption) rfl ?_
                    rotate_left
                    · intro w' hSw
                      have x0 := below_cell hSw x0; have y0 := below_cell hSw y0; have c1 := below_cell hSw c1; have c2 := below_cell hSw c2
                      go_simp <;> with_reducible rfl
                    simp only [List.setIfInBounds_toArray, List.set_cons_succ, List.set_cons_zero]
                    refine wpAnyH_takeD (i := 18) (v := ?_) 72 rfl (by kernel_rfl) (by kernel_rfl) (by kernel_rfl) (fun _ _ _ h => h) (Or.inl ⟨by rfl, ?_⟩) (by assumption) rfl ?_
                    rotate_left
                    · intro w' hSw
                      have x0 := below_cell hSw x0; have y0 := below_cell hSw y0; have c1 := below_cell hSw c1; have c2 := below_cell hSw c2
                      go_simp <;> with_reducible rfl
                    simp only [List.setIfInBounds_toArray, List.set_cons_succ, List.set_cons_zero]
                    refine wpAnyH_takeD (i := 19) (v := ?_) 73 rfl (by kernel_rfl) (by kernel_rfl) (by kernel_rfl) (fun _ _ _ h => h) (Or.inl ⟨by rfl, ?_⟩) (by assumption) rfl ?_
                    rotate_left
                    · intro w' hSw
                      have x0 := below_cell hSw x0; have y0 := below_cell hSw y0; have c1 := below_cell hSw c1; have c2 := below_cell hSw c2
                      go_simp <;> with_reducible rfl
                    simp only [List.setIfInBounds_toArray, List.set_cons_succ, List.set_cons_zero]
                    refine wpAnyH_ready (rs := [20]) (by kernel_rfl) (by simp) ?_
                    refine AllReadyH.cons (o := _) rfl (fun K hK => ?_) AllReadyH.nil
                    go_simp
                    go_at_call 70
                    refine (HTs.out _ (HBw.out.trans (hHeld.mono HBw.out.size))).mono ?_
                    rintro e w41 ⟨rfl, hb41⟩
                    have HV41 := Lib.hid (hHeld.trans (hb41.mono hHeld.size))
                    clear hb41
                    refine hK.out _ _ HV41.out (fun hHeld2 => ?_)
                    clear hK K
                    refine wpAnyH_takeD (i := 21) (v := ?_) 75 rfl (by kernel_rfl) (by kernel_rfl) (by kernel_rfl) (fun _ _ _ h => h) (Or.inl ⟨by rfl, ?_⟩) (by assumption) rfl ?_
                    rotate_left
                    · intro w' hSw
                      have x0 := below_cell hSw x0; have y0 := below_cell hSw y0; have c1 := below_cell hSw c1; have c2 := below_cell hSw c2
                      go_simp <;> with_reducible rfl
                    simp only [List.setIfInBounds_toArray, List.set_cons_succ, List.set_cons_zero]
                    refine wpAnyH_takeD (i := 22) (v := ?_) 76 rfl (by kernel_rfl) (by kernel_rfl) (by kernel_rfl) (fun _ _ _ h => h) (Or.inl ⟨by rfl, ?_⟩) (by assumption) rfl ?_
                    rotate_left
                    · intro w' hSw
                      have x0 := below_cell hSw x0; have y0 := below_cell hSw y0; have c1 := below_cell hSw c1; have c2 := below_cell hSw c2
                      go_simp <;> with_reducible rfl
                    simp only [List.setIfInBounds_toArray, List.set_cons_succ, List.set_cons_zero]
                    refine wpAnyH_done (by kernel_rfl) ?_ _
                    have HV := Lib.hid (HU.out.trans (HV41.out.mono HU.out.size))
                    have HN2 := Lib.hid (HNx.out (fun z => ht (HMt.out.2 z.2)))
                    clear hHeld hHeld2 x0 y0 c1 c2 d1 d2 q1 q1'
                    go_wp2
                    exact ⟨⟨k + 1, by go_num, rfl, by omega, HN2.out, HV.out⟩, by simp [intOf]; omega⟩
                · have q1 : (Y == (m : Int)) = false := beq_eq_false_iff_ne.2 hym
                  have HN2 := Lib.hid (HNx.out (fun z => hym (HLev.out.2 z.1)))
                  clear hym HLev
                  go_upto_region 16 with fail
                  refine wp_region_held_drew (S := fun w' => Below wr.heap.size wr w') (by kernel_rfl) (below_drew (Below.refl _ _)) (fun hHeld => ?_)
                  refine wpAnyH_takeD (i := 0) (v := ?_) 54 rfl (by kernel_rfl) (by kernel_rfl) (by kernel_rfl) (fun _ _ _ h => h) (Or.inl ⟨by rfl, ?_⟩) (by assumption) rfl ?_
                  rotate_left
                  · intro w' hSw
                    have x0 := below_cell hSw x0; have y0 := below_cell hSw y0; have c1 := below_cell hSw c1; have c2 := below_cell hSw c2
                    go_simp <;> with_reducible rfl
                  simp only [List.setIfInBounds_toArray, List.set_cons_succ, List.set_cons_zero]
                  refine wpAnyH_takeD (i := 1) (v := ?_) 55 rfl (by kernel_rfl) (by kernel_rfl) (by kernel_rfl) (fun _ _ _ h => h) (Or.inl ⟨by rfl, ?_⟩) (by assumption) rfl ?_
                  rotate_left
                  · intro w' hSw
                    have x0 := below_cell hSw x0; have y0 := below_cell hSw y0; have c1 := below_cell hSw c1; have c2 := below_cell hSw c2
                    go_simp <;> with_reducible rfl
                  simp only [List.setIfInBounds_toArray, List.set_cons_succ, List.set_cons_zero]
                  refine wpAnyH_takeD (i := 2) (v := ?_) 56 rfl (by kernel_rfl) (by kernel_rfl) (by kernel_rfl) (fun _ _ _ h => h) (Or.inl ⟨by rfl, ?_⟩) (by assumption) rfl ?_
                  rotate_left
                  · intro w' hSw
                    have x0 := below_cell hSw x0; have y0 := below_cell hSw y0; have c1 := below_cell hSw c1; have c2 := below_cell hSw c2
                    go_simp <;> with_reducible rfl
                  simp only [List.setIfInBounds_toArray, List.set_cons_succ, List.set_cons_zero]
                  refine wpAnyH_takeD (i := 3) (v := ?_) 57 rfl (by kernel_rfl) (by kernel_rfl) (by kernel_rfl) (fun _ _ _ h => h) (Or.inl ⟨by rfl, ?_⟩) (by assumption) rfl ?_
                  rotate_left
                  · intro w' hSw
                    have x0 := below_cell hSw x0; have y0 := below_cell hSw y0; have c1 := below_cell hSw c1; have c2 := below_cell hSw c2
                    go_simp <;> with_reducible rfl
                  simp only [List.setIfInBounds_toArray, List.set_cons_succ, List.set_cons_zero]
                  refine wpAnyH_takeD (i := 4) (v := ?_) 58 rfl (by kernel_rfl) (by kernel_rfl) (by kernel_rfl) (fun _ _ _ h => h) (Or.inl ⟨by rfl, ?_⟩) (by assumption) rfl ?_
                  rotate_left
                  · intro w' hSw
                    have x0 := below_cell hSw x0; have y0 := below_cell hSw y0; have c1 := below_cell hSw c1; have c2 := below_cell hSw c2
                    go_simp <;> with_reducible rfl
                  simp only [List.setIfInBounds_toArray, List.set_cons_succ, List.set_cons_zero]
                  refine wpAnyH_takeD (i := 5) (v := ?_) 59 rfl (by kernel_rfl) (by kernel_rfl) (by kernel_rfl) (fun _ _ _ h => h) (Or.inl ⟨by rfl, ?_⟩) (by assumption) rfl ?_
                  rotate_left
                  · intro w' hSw
                    have x0 := below_cell hSw x0; have y0 := below_cell hSw y0; have c1 := below_cell hSw c1; have c2 := below_cell hSw c2
                    go_simp <;> with_reducible rfl
                  simp only [List.setIfInBounds_toArray, List.set_cons_succ, List.set_cons_zero]
                  refine wpAnyH_takeD (i := 6) (v := ?_) 60 rfl (by kernel_rfl) (by kernel_rfl) (by kernel_rfl) (fun _ _ _ h => h) (Or.inl ⟨by rfl, ?_⟩) (by assumption) rfl ?_
                  rotate_left
                  · intro w' hSw
                    have x0 := below_cell hSw x0; have y0 := below_cell hSw y0; have c1 := below_cell hSw c1; have c2 := below_cell hSw c2
                    go_simp <;> with_reducible rfl
                  simp only [List.setIfInBounds_toArray, List.set_cons_succ, List.set_cons_zero]
                  refine wpAnyH_takeD (i := 7) (v := ?_) 61 rfl (by kernel_rfl) (by kernel_rfl) (by kernel_rfl) (fun _ _ _ h => h) (Or.inl ⟨by rfl, ?_⟩) (by assumption) rfl ?_
                  rotate_left
                  · intro w' hSw
                    have x0 := below_cell hSw x0; have y0 := below_cell hSw y0; have c1 := below_cell hSw c1; have c2 := below_cell hSw c2
                    go_simp <;> with_reducible rfl
                  simp only [List.setIfInBounds_toArray, List.set_cons_succ, List.set_cons_zero]
                  refine wpAnyH_takeD (i := 8) (v := ?_) 62 rfl (by kernel_rfl) (by kernel_rfl) (by kernel_rfl) (fun _ _ _ h => h) (Or.inl ⟨by rfl, ?_⟩) (by assumption) rfl ?_
                  rotate_left
                  · intro w' hSw
                    have x0 := below_cell hSw x0; have y0 := below_cell hSw y0; have c1 := below_cell hSw c1; have c2 := below_cell hSw c2
                    go_simp <;> with_reducible rfl
                  simp only [List.setIfInBounds_toArray, List.set_cons_succ, List.set_cons_zero]
                  refine wpAnyH_takeD (i := 9) (v := ?_) 63 rfl (by kernel_rfl) (by kernel_rfl) (by kernel_rfl) (fun _ _ _ h => h) (Or.inl ⟨by rfl, ?_⟩) (by assumption) rfl ?_
                  rotate_left
                  · intro w' hSw
                    have x0 := below_cell hSw x0; have y0 := below_cell hSw y0; have c1 := below_cell hSw c1; have c2 := below_cell hSw c2
                    go_simp <;> with_reducible rfl
                  simp only [List.setIfInBounds_toArray, List.set_cons_succ, List.set_cons_zero]
                  refine wpAnyH_takeD (i := 10) (v := ?_) 64 rfl (by kernel_rfl) (by kernel_rfl) (by kernel_rfl) (fun _ _ _ h => h) (Or.inl ⟨by rfl, ?_⟩) (by assumption) rfl ?_
                  rotate_left
                  · intro w' hSw
                    have x0 := below_cell hSw x0; have y0 := below_cell hSw y0; have c1 := below_cell hSw c1; have c2 := below_cell hSw c2
                    go_simp <;> with_reducible rfl
                  simp only [List.setIfInBounds_toArray, List.set_cons_succ, List.set_cons_zero]
                  refine wpAnyH_takeD (i := 11) 65 rfl (by kernel_rfl) (by kernel_rfl) (by kernel_rfl) (fun _ _ _ h => h) (Or.inr ⟨by kernel_rfl, rfl⟩) (by assumption) rfl ?_
                  simp only [List.setIfInBounds_toArray, List.set_cons_succ, List.set_cons_zero]
                  refine wpAnyH_takeD (i := 12) 66 rfl (by kernel_rfl) (by kernel_rfl) (by kernel_rfl) (fun _ _ _ h => h) (Or.inr ⟨by kernel_rfl, rfl⟩) (by assumption) rfl ?_
                  simp only [List.setIfInBounds_toArray, List.set_cons_succ, List.set_cons_zero]
                  refine wpAnyH_takeD (i := 13) 67 rfl (by kernel_rfl) (by kernel_rfl) (by kernel_rfl) (fun _ _ _ h => h) (Or.inr ⟨by kernel_rfl, rfl⟩) (by assumption) rfl ?_
                  simp only [List.setIfInBounds_toArray, List.set_cons_succ, List.set_cons_zero]
                  refine wpAnyH_takeD (i := 14) 68 rfl (by kernel_rfl) (by kernel_rfl) (by kernel_rfl) (fun _ _ _ h => h) (Or.inr ⟨by kernel_rfl, rfl⟩) (by assumption) rfl ?_
                  simp only [List.setIfInBounds_toArray, List.set_cons_succ, List.set_cons_zero]
                  refine wpAnyH_takeD (i := 15) 69 rfl (by kernel_rfl) (by kernel_rfl) (by kernel_rfl) (fun _ _ _ h => h) (Or.inr ⟨by kernel_rfl, rfl⟩) (by assumption) rfl ?_
                  simp only [List.setIfInBounds_toArray, List.set_cons_succ, List.set_cons_zero]
                  refine wpAnyH_takeD (i := 16) 70 rfl (by kernel_rfl) (by kernel_rfl) (by kernel_rfl) (fun _ _ _ h => h) (Or.inr ⟨by kernel_rfl, rfl⟩) (by assumption) rfl ?_
                  simp only [List.setIfInBounds_toArray, List.set_cons_succ, List.set_cons_zero]
                  refine wpAnyH_takeD (i := 17) 71 rfl (by kernel_rfl) (by kernel_rfl) (by kernel_rfl) (fun _ _ _ h => h) (Or.inr ⟨by kernel_rfl, rfl⟩) (by assumption) rfl ?_
                  simp only [List.setIfInBounds_toArray, List.set_cons_succ, List.set_cons_zero]
                  refine wpAnyH_takeD (i := 18) 72 rfl (by kernel_rfl) (by kernel_rfl) (by kernel_rfl) (fun _ _ _ h => h) (Or.inr ⟨by kernel_rfl, rfl⟩) (by assumption) rfl ?_
                  simp only [List.setIfInBounds_toArray, List.set_cons_succ, List.set_cons_zero]
                  refine wpAnyH_takeD (i := 19) 73 rfl (by kernel_rfl) (by kernel_rfl) (by kernel_rfl) (fun _ _ _ h => h) (Or.inr ⟨by kernel_rfl, rfl⟩) (by assumption) rfl ?_
                  simp only [List.setIfInBounds_toArray, List.set_cons_succ, List.set_cons_zero]
                  refine wpAnyH_takeD (i := 20) 74 rfl (by kernel_rfl) (by kernel_rfl) (by kernel_rfl) (fun _ _ _ h => h) (Or.inr ⟨by kernel_rfl, rfl⟩) (by assumption) rfl ?_
                  simp only [List.setIfInBounds_toArray, List.set_cons_succ, List.set_cons_zero]
                  refine wpAnyH_takeD (i := 21) 75 rfl (by kernel_rfl) (by kernel_rfl) (by kernel_rfl) (fun _ _ _ h => h) (Or.inr ⟨by kernel_rfl, rfl⟩) (by assumption) rfl ?_
                  simp only [List.setIfInBounds_toArray, List.set_cons_succ, List.set_cons_zero]
                  refine wpAnyH_takeD (i := 22) (v := ?_) 76 rfl (by kernel_rfl) (by kernel_rfl) (by kernel_rfl) (fun _ _ _ h => h) (Or.inl ⟨by rfl, ?_⟩) (by assumption) rfl ?_
                  rotate_left
                  · intro w' hSw
                    have x0 := below_cell hSw x0; have y0 := below_cell hSw y0; have c1 := below_cell hSw c1; have c2 := below_cell hSw c2
                    go_simp <;> with_reducible rfl
                  simp only [List.setIfInBounds_toArray, List.set_cons_succ, List.set_cons_zero]
                  refine wpAnyH_done (by kernel_rfl) ?_ _
                  have HV := Lib.hid (HU.out.trans (hHeld.mono HU.out.size))
                  clear hHeld x0 y0 c1 c2 q1
                  go_wp2
                  exact ⟨⟨k + 1, by go_num, rfl, by omega, HN2.out, HV.out⟩, by simp [intOf]; omega⟩
              · exfalso
                obtain ⟨t, ht1, ht2⟩ := HLi.out.prev
                obtain ⟨j, hj⟩ := List.mem_iff_getElem?.1 (met_all1 ht2)
                exact HN.out j t (by have := (List.getElem?_eq_some_iff.1 hj).1; omega) hj ht1 ht2.symm
      · have x0 := HCf.out i0 _ hN1
        have d2 : decide ((-1 : Int) < 0) = true := rfl
        obtain ⟨E0, eL⟩ := HNf.out hN2
        subst E0
        subst eL
        clear hg0 hN1 hN2 HIa HNo HNf HYe
        go_wp2
        go_ret2
        exact ⟨HB3.out, _, rfl, Sl.nil0 _ _⟩
    · have hb0 : jb < 0 := hnb.2 hb
      have d1 : decide (jb < 0) = true := decide_eq_true hb0
      obtain ⟨E0, eL⟩ := HNo.out (fun z => hb z.2)
      subst E0
      subst eL
      clear hna hnb ha hb
      go_wp2_with fail
      refine HA2.out.mono ?_
      rintro e wz ⟨rfl, rfl⟩
      go_wp2
      go_ret2
      exact ⟨HB2.out, _, rfl, Sl.nil0 _ _⟩
  · have ha0 : ia < 0 := hna.2 ha
    have d0 : decide (ia < 0) = true := decide_eq_true ha0
    obtain ⟨E0, eL⟩ := HNo.out (fun z => ha z.1)
    subst E0
    subst eL
    clear hna hnb ha
    go_wp2
    go_ret2
    exact ⟨HB2.out, _, rfl, Sl.nil0 _ _⟩
/-- The reference answers as the program. -/
theorem rchain_any (v : Value) (ds : List De) (a b : ByteArray) (w : World) (h : DeedsV w v ds) (hs : ShortDs ds) :
    Calls Tryz.prog 20 #[v, .string a, .string b] w (ChainR ds a b w) := by
  rcases checkDF_cases ds with hc | hc | hc
  · refine (rchain_bad _ (.inl rfl) v ds a b w h hs hc).mono ?_
    rintro e w' ⟨he, hb⟩
    obtain ⟨e1, e2⟩ := chE_bad (ds := ds) (a := a) (b := b) (by omega)
    refine ⟨hb, ?_⟩
    rw [e1, e2, hc]
    exact ⟨_, he, Sl.nil0 _ _⟩
  · refine (rchain_bad _ (.inr rfl) v ds a b w h hs hc).mono ?_
    rintro e w' ⟨he, hb⟩
    obtain ⟨e1, e2⟩ := chE_bad (ds := ds) (a := a) (b := b) (by omega)
    refine ⟨hb, ?_⟩
    rw [e1, e2, hc]
    exact ⟨_, he, Sl.nil0 _ _⟩
  · exact rchain_good v ds a b w h hs hc (chE ds a b) (chL ds a b) (fun q => chE_none hc (chainF_not q)) (fun q => chE_none hc (chainF_far q)) (fun n ha hb hn => chE_some hc (chainF_some ha hb hn))
end Go.Proofs.YtdmcopjbckelmaaGreatDoor
