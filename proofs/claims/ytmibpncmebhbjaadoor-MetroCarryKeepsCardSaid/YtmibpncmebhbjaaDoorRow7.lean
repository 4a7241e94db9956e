/- MetroCarryKeeps: the walk. -/
import Derived.Test.YtmibpncmebhbjaaDoorP10
import Derived.Test.YtmibpncmebhbjaaDoorVal3
import Derived.Test.YtmibpncmebhbjaaDoorCar2
import Derived.Test.YtmibpncmebhbjaaDoorKeep1
namespace Go.Proofs.YtmibpncmebhbjaaDoor
open Go Go.RowKit Go.Shelf
attribute [local go_sem] Oper.semAt_some rrV

theorem carryL_bd (us : List Un) (cs : List Int) (c : Int) (h0 : 0 ≤ c) (hc : ∀ x ∈ cs, 0 ≤ x ∧ x ≤ 1099511627776) (hf : ∀ u ∈ us, 1 ≤ u.factor) : ∀ y ∈ carryL us cs c, 0 ≤ y ∧ y ≤ c + 1099511627776 * (us.length : Int) := by
  induction us generalizing cs c with
  | nil => simp [carryL]
  | cons u us ih =>
    cases us with
    | nil => simp [carryL]
    | cons u2 us =>
      have hf2 := hf u2 (by simp)
      have hd : 0 ≤ cs.headD 0 ∧ cs.headD 0 ≤ 1099511627776 := by
        cases cs with
        | nil => simp
        | cons x l => exact hc x (by simp)
      have d0 := Int.ediv_nonneg (show 0 ≤ c + cs.headD 0 by omega) (show 0 ≤ u2.factor by omega)
      have d1 := Int.ediv_le_self u2.factor (show 0 ≤ c + cs.headD 0 by omega)
      intro y hy
      simp only [carryL, List.mem_cons] at hy
      simp only [List.length_cons]
      rcases hy with rfl | hy
      · omega
      · have := ih cs.tail _ d0 (fun x hx => hc x (List.mem_of_mem_tail hx)) (fun x hx => hf x (by simp at hx ⊢; right; exact hx)) y hy
        simp only [List.length_cons] at this
        omega
def brL (rs : List Int) : List Int := rs.map fun r => r % 1000001
theorem brL_length (rs : List Int) : (brL rs).length = rs.length := by simp [brL]
theorem brL_bd (rs : List Int) : ∀ x ∈ brL rs, 0 ≤ x ∧ x ≤ 1000000 := by
  intro x hx
  obtain ⟨r, _, rfl⟩ := List.mem_map.1 hx
  omega
theorem intoAt_bd {L : List Int} {b : Int} (h : ∀ y ∈ L, 0 ≤ y ∧ y ≤ b) (hb : 0 ≤ b) (i : Nat) : 0 ≤ intoAt L i ∧ intoAt L i ≤ b := by
  unfold intoAt
  split
  · omega
  · by_cases hi : i - 1 < L.length
    · rw [List.getD, List.getElem?_eq_getElem hi]; exact h _ (List.getElem_mem _)
    · rw [List.getD, List.getElem?_eq_none (by omega)]; simp; omega
theorem total_kinds {nm : ByteArray} {us : List Un} {cs : List Int} (h1 : checkF nm us = 0) (h2 : cs.length ≤ us.length) (h3 : ∀ x ∈ cs, 0 ≤ x) : (totalF nm us cs).2 = 0 ∨ totalF nm us cs = (0, 6) := by
  have hE := totalE_good h1 h2
  have hn : negB cs = false := negB_no fun j hj => h3 _ (List.getElem_mem _)
  rw [totalF_sum hE hn]
  cases sumP (yl us 1 (by decide)) cs 0 with
  | some s => left; rfl
  | none => right; rfl

set_option maxRecDepth 100000 in
set_option maxHeartbeats 2000000 in
theorem carryKeeps_any (fs : List Int) (A : Option Addr) (c : Nat) (rs : List Int) (A' : Option Addr) (c' : Nat) (w : World) (hz : Zw w) (hsl : Sl w 1 (.slice A fs.length c) (fs.map (Value.int .i64))) (hfs : ∀ f ∈ fs, Bd f) (hrl : Sl w 1 (.slice A' rs.length c') (rs.map (Value.int .i64))) (hrs : ∀ f ∈ rs, Bd f) :
    Calls Tryd.prog 18 #[.slice A fs.length c, .slice A' rs.length c'] w fun e w' => e = .returned (.bool true) ∧ Below w.heap.size w w' := by
  have HV := Lib.hid (valid_any ⟨#[111, 119, 110]⟩ fs _ w hsl hfs)
  have HZ := Lib.hid hz
  have hUl := validU_length fs
  have hck := valid_ok (nm := ⟨#[111, 119, 110]⟩) (by kernel_rfl) fs
  have hul1 : 1 ≤ (validU fs).length := by omega
  have hul2 : (validU fs).length ≤ 8 := by omega
  obtain ⟨_, _, e, hlr, hcr, hclr⟩ := hrl.open1
  simp only [List.length_map] at e hlr
  cases e
  have HRC := Lib.hid hclr
  have HRB := Lib.hid hrs
  clear hsl hfs hz hUl hrl hclr hrs
  generalize validU fs = us at *
  have HB9 : Hid (∀ r W, Bd r → Calls Tryd.prog 36 #[.int .i64 r, .int .i64 1000001] W fun e w' => e = .returned (.int .i64 (r % 1000001)) ∧ W = w') := fun r W h => by
    have := bring_any r 1000001 W h.1 h.2 (by decide) (by decide)
    rwa [show bringF r 1000001 = r % 1000001 from if_neg (by decide)] at this
  obtain ⟨cs, hcs⟩ : ∃ cs, brL (rs.take us.length) = cs := ⟨_, rfl⟩
  have hcl : cs.length ≤ us.length := by rw [← hcs, brL_length, List.length_take]; omega
  have hcb : ∀ x ∈ cs, 0 ≤ x ∧ x ≤ 1099511627776 := by
    intro x hx
    rw [← hcs] at hx
    have := brL_bd _ x hx
    omega
  have hBd : ∀ x ∈ cs, Bd x := fun x hx => by have := hcb x hx; unfold Bd; omega
  have C6 : Hid (∀ w', Below w.heap.size w w' → Calls Tryd.prog 27 #[] w' fun e w'' => e = .returned (.bool true) ∧ Below w'.heap.size w' w'') := fun w' hb => works_any w' (HZ.out.below hb)
  have HT : Hid (∀ A1 c1 A2 c2 w', Sl w' 2 (.slice A1 us.length c1) (unitsV us) → Sl w' 1 (.slice A2 cs.length c2) (cs.map (Value.int .i64)) → Calls Tryd.prog 64 #[.agg #[.string (⟨#[111, 119, 110]⟩ : ByteArray), .slice A1 us.length c1], .slice A2 cs.length c2] w' fun e w'' => e = .returned (.tuple #[.int .i64 (totalF ⟨#[111, 119, 110]⟩ us cs).1, .int .i64 (totalF ⟨#[111, 119, 110]⟩ us cs).2]) ∧ Below w'.heap.size w' w'') := fun A1 c1 A2 c2 w' h h2 => total_any ⟨#[111, 119, 110]⟩ (by decide) A1 c1 us A2 c2 cs w' h h2 hBd
  have HC : Hid (∀ A1 c1 A2 c2 w', Sl w' 2 (.slice A1 us.length c1) (unitsV us) → Sl w' 1 (.slice A2 cs.length c2) (cs.map (Value.int .i64)) → Calls Tryd.prog 75 #[.agg #[.string (⟨#[111, 119, 110]⟩ : ByteArray), .slice A1 us.length c1], .slice A2 cs.length c2] w' fun e w'' => ∃ va vb, e = .returned (.tuple #[va, vb, .int .i64 (carryV ⟨#[111, 119, 110]⟩ us cs).2.2]) ∧ Sl w'' 1 va ((carryV ⟨#[111, 119, 110]⟩ us cs).1.map (Value.int .i64)) ∧ Sl w'' 1 vb ((carryV ⟨#[111, 119, 110]⟩ us cs).2.1.map (Value.int .i64)) ∧ Below w'.heap.size w' w'') := fun A1 c1 A2 c2 w' h h2 => carry_any ⟨#[111, 119, 110]⟩ (by decide) A1 c1 us A2 c2 cs w' h h2 hBd
  have HCS := Lib.hid hcs
  have HCB := Lib.hid hcb
  have HKD := Lib.hid (total_kinds hck hcl fun x hx => (hcb x hx).1)
  have HKP := Lib.hid (fun h i hi => carry_keeps (nm := ⟨#[111, 119, 110]⟩) (us := us) (cs := cs) h i hi)
  have HTS := Lib.hid (fun n h0 h1 => total_split (nm := ⟨#[111, 119, 110]⟩) (us := us) hck (n := n) h0 h1)
  have HTO := Lib.hid (fun h => total_ok (nm := ⟨#[111, 119, 110]⟩) (us := us) (cs := cs) h)
  have HFC := Lib.hid (checkF_zero hck).1
  have HCV := Lib.hid (show carryV ⟨#[111, 119, 110]⟩ us cs = if (totalF ⟨#[111, 119, 110]⟩ us cs).2 = 0 then (splitF us (totalF ⟨#[111, 119, 110]⟩ us cs).1, carryL us cs 0, 0) else ([], [], (totalF ⟨#[111, 119, 110]⟩ us cs).2) from rfl)
  clear hcs hcb hBd hck
  rcases HKD.out with h0 | h6
  · obtain ⟨hc9, _, _, _, s0, s1⟩ := HTO.out h0
    have HP := Lib.hid (HKP.out h0)
    have hcv := HCV.out
    rw [if_pos h0] at hcv
    rw [hcv] at HC
    rw [h0] at HT
    have hts := HTS.out _ s0 s1
    have hsb := splitF_bd us (totalF ⟨#[111, 119, 110]⟩ us cs).1 s0 (fun u hu => (HFC.out u hu).1)
    clear HTO HKP HCV HTS h0 hcv
    generalize (totalF ⟨#[111, 119, 110]⟩ us cs).1 = s at *
    obtain ⟨K, hK⟩ : ∃ K, K + 1 = us.length := ⟨us.length - 1, by omega⟩
    have HSL := Lib.hid (splitF_length us s)
    have HCLN := Lib.hid (show (carryL us cs 0).length = K by rw [carryL_length]; omega)
    have hXB : ∀ (i : Nat) (x : Int), (splitF us s)[i]? = some x → 0 ≤ x := fun i x h => (hsb i x h).1
    have HXB := Lib.hid hXB
    have hYB := carryL_bd us cs 0 (by decide) HCB.out (fun u hu => (HFC.out u hu).1)
    have HYB : Hid (∀ y ∈ carryL us cs 0, 0 ≤ y ∧ y ≤ 8796093022208) := fun y hy => by have := hYB y hy; omega
    have HIB : Hid (∀ i, 0 ≤ intoAt (carryL us cs 0) i ∧ intoAt (carryL us cs 0) i ≤ 8796093022208) := fun i => intoAt_bd HYB.out (by decide) i
    have hk2 : (us.length : Int) - 1 = (K : Int) := by omega
    have hk3 : IntKind.i64.wrap (K : Int) = (K : Int) := by rw [IntKind.wrap_i64]; omega
    have HT2 : Hid (∀ A1 c1 A2 c2 w', Sl w' 2 (.slice A1 us.length c1) (unitsV us) → Sl w' 1 (.slice A2 us.length c2) ((splitF us s).map (Value.int .i64)) → Calls Tryd.prog 64 #[.agg #[.string (⟨#[111, 119, 110]⟩ : ByteArray), .slice A1 us.length c1], .slice A2 us.length c2] w' fun e w'' => e = .returned (.tuple #[.int .i64 s, .int .i64 0]) ∧ Below w'.heap.size w' w'') := fun A1 c1 A2 c2 w' h h2 => by
      have hb : ∀ x ∈ splitF us s, Bd x := fun x hx => by
        have h1 := (total_ok (nm := ⟨#[111, 119, 110]⟩) (us := us) (cs := splitF us s) (by rw [hts])).2.2.1 x hx
        unfold Bd; omega
      have := total_any ⟨#[111, 119, 110]⟩ (by decide) A1 c1 us A2 c2 (splitF us s) w' h (by rw [HSL.out]; exact h2) hb
      rw [hts, HSL.out] at this
      exact this
    have HC : Hid (∀ A1 c1 A2 c2 w', Sl w' 2 (.slice A1 us.length c1) (unitsV us) → Sl w' 1 (.slice A2 cs.length c2) (cs.map (Value.int .i64)) → Calls Tryd.prog 75 #[.agg #[.string (⟨#[111, 119, 110]⟩ : ByteArray), .slice A1 us.length c1], .slice A2 cs.length c2] w' fun e w'' => ∃ A3 c3 A4 c4, e = .returned (.tuple #[.slice A3 us.length c3, .slice A4 K c4, .int .i64 0]) ∧ Sl w'' 1 (.slice A3 us.length c3) ((splitF us s).map (Value.int .i64)) ∧ Sl w'' 1 (.slice A4 K c4) ((carryL us cs 0).map (Value.int .i64)) ∧ Below w'.heap.size w' w'') := fun A1 c1 A2 c2 w' h h2 => by
      refine (HC.out A1 c1 A2 c2 w' h h2).mono ?_
      rintro e w'' ⟨va, vb, rfl, ha, hb, hbl⟩
      obtain ⟨A3, c3, rfl, _⟩ := ha.open1
      obtain ⟨A4, c4, rfl, _⟩ := hb.open1
      simp only [List.length_map, HSL.out, HCLN.out] at ha hb ⊢
      exact ⟨A3, c3, A4, c4, rfl, ha, hb, hbl⟩
    clear hc9 hts hsb hXB hYB hK
    go_enter Tryd.func18, Tryd.ntmps18
    go_wp2_with (go_at_call 49; refine HV.out.mono ?_; rintro e w1 ⟨A1, c1, rfl, hs1, hb1⟩; have HB1 := Lib.hid (hb1.alloc hb1.size (.cells #[.string (⟨#[111, 119, 110]⟩ : ByteArray), .slice A1 us.length c1] 33)); have HS1 := Lib.hid (hs1.alloc (.cells #[.string (⟨#[111, 119, 110]⟩ : ByteArray), .slice A1 us.length c1] 33)); have HY1 := Lib.hid (Cel.new w1 33 #[.string (⟨#[111, 119, 110]⟩ : ByteArray), .slice A1 us.length c1]); clear hs1 hb1)
    obtain ⟨W, hW⟩ : ∃ W, w1.alloc (.cells #[.string (⟨#[111, 119, 110]⟩ : ByteArray), .slice A1 us.length c1] 33) = W := ⟨_, rfl⟩
    rw [hW] at HB1 HS1 HY1 ⊢
    clear hW
    have HSW : Hid (∀ w', Below W.heap.size W w' → Sl w' 2 (.slice A1 us.length c1) (unitsV us)) := fun w' hb => HS1.out.below hb
    have HKW : Hid (∀ w', Below W.heap.size W w' → w'.cell? ⟨w1.heap.size, 0, none⟩ = some (.string (⟨#[111, 119, 110]⟩ : ByteArray)) ∧ w'.cell? ⟨w1.heap.size, 1, none⟩ = some (.slice A1 us.length c1)) := fun w' hb => ⟨(HY1.out.below HY1.out.lt hb).cell 0 _ rfl, (HY1.out.below HY1.out.lt hb).cell 1 _ rfl⟩
    go_loopw [6, 7] (fun tv ti wr => ∃ k : Nat, ti = .int .i64 k ∧ k ≤ rs.length ∧ k ≤ us.length ∧ wr.ownsRow W.heap.size 3 1 tv k ((brL (rs.take k)).map (Value.int .i64)) ∧ Below W.heap.size W wr) (fun _ ti _ => rs.length - (intOf ti).toNat)
    case atStart => exact ⟨0, rfl, by omega, by omega, World.ownsRow_nil _ _ _ _, Below.refl _ _⟩
    case round =>
      obtain ⟨k, rfl, hk1, hk2, hown, hB⟩ := hrel
      obtain ⟨a0, a1⟩ := HKW.out _ hB
      have hsz := hB.size
      by_cases hlt : k < rs.length
      · by_cases hlu : k < us.length
        · obtain ⟨ad, e, q0⟩ := HRC.out k (.int .i64 rs[k]) (by rw [List.getElem?_map, List.getElem?_eq_getElem hlt]; rfl)
          subst e
          have e0 := below_cell (HB1.out.trans (hB.mono HB1.out.size)) q0
          have HTK := Lib.hid (show brL (rs.take (k + 1)) = brL (rs.take k) ++ [rs[k] % 1000001] by rw [List.take_succ_eq_append_getElem hlt]; unfold brL; rw [List.map_append]; rfl)
          have HBR := Lib.hid (fun W => HB9.out rs[k] W (HRB.out _ (List.getElem_mem _)))
          generalize rs[k] = r at *
          have hr1 := Int.emod_nonneg r (show (1000001 : Int) ≠ 0 by decide)
          have hr2 := Int.emod_lt_of_pos r (show (0 : Int) < 1000001 by decide)
          clear q0
          go_wp2_with (first
            | (go_at_call 36; refine (HBR.out _).mono ?_; rintro e w2 ⟨rfl, rfl⟩)
            | (at_builtin; refine appInt _ _ rfl rfl rfl rfl (hown.alloc _) (Sl.new (s := 1) wr 3 1 1 _ rfl (by omega) (by omega)) (by simp [Value.oneCell']) rfl (by simp; omega) (by simp; omega) ?_; intro A2 c2 w2 hap))
          have hb1 := below_of_own hap.grown (hown.alloc _) (hB.alloc hsz (.cells #[.int .i64 (r % 1000001)] 3)) (Nat.le_refl _)
          have hap1 := hap.own
          clear hap
          go_wp2
          go_roundw
          case rel => exact ⟨k + 1, by simp, hlt, hlu, by rw [HTK.out]; simpa using hap1, hb1⟩
          case measure => simp [intOf]; omega
        · have HCE : brL (rs.take k) = cs := by rw [← HCS.out, show k = us.length by omega]
          obtain ⟨A2, c2, rfl, hown'⟩ := own_shape hown
          have HO := Lib.hid (Sl.of_own hown')
          rw [HCE] at HO
          obtain rfl : k = cs.length := by rw [← HCE, brL_length, List.length_take]; omega
          have HBW := Lib.hid hB
          clear hown hown' hB HCE
          go_wp2_with (first
            | (go_at_call_of 64 (Value.slice A2 cs.length c2); refine (HT.out _ _ A2 c2 _ (HSW.out _ HBW.out) HO.out).mono ?_; rintro e w2 ⟨rfl, hb2⟩; have HB2 := Lib.hid (below_then HBW.out hb2); have HO2 := Lib.hid (HO.out.below hb2); clear hb2 a0 a1; obtain ⟨a0, a1⟩ := HKW.out _ HB2.out)
            | (go_at_call 75; refine (HC.out _ _ A2 c2 _ (HSW.out _ HB2.out) HO2.out).mono ?_; rintro e w3 ⟨A3, c3, A4, c4, rfl, h3, h4, hb3⟩; have HB3 := Lib.hid (below_then HB2.out hb3); have HO3 := Lib.hid (HO2.out.below hb3); have HA3 := Lib.hid h3; have HA4 := Lib.hid h4; clear h3 h4 hb3 a0 a1; obtain ⟨a0, a1⟩ := HKW.out _ HB3.out)
            | (go_at_call 64; refine (HT2.out _ _ A3 c3 _ (HSW.out _ HB3.out) HA3.out).mono ?_; rintro e w4 ⟨rfl, hb4⟩; have HB4 := Lib.hid (below_then HB3.out hb4); have HO4 := Lib.hid (HO3.out.below hb4); have HA5 := Lib.hid (HA3.out.below hb4); have HA6 := Lib.hid (HA4.out.below hb4); clear hb4 a0 a1; obtain ⟨a0, a1⟩ := HKW.out _ HB4.out))
          obtain ⟨_, _, e, _, hcm2, hcl2⟩ := HO4.out.open1
          simp only [List.length_map] at e
          cases e
          obtain ⟨_, _, e, _, hcm3, hcl3⟩ := HA5.out.open1
          simp only [List.length_map, HSL.out] at e
          cases e
          obtain ⟨_, _, e, _, hcm4, hcl4⟩ := HA6.out.open1
          simp only [List.length_map, HCLN.out] at e
          cases e
          obtain ⟨_, _, _, e, _, _, hcm1, hcl1⟩ := (HSW.out _ HB4.out).open2 (by decide)
          cases e
          have HQ2 := Lib.hid hcl2
          have HQ3 := Lib.hid hcl3
          have HQ4 := Lib.hid hcl4
          have HQ1 := Lib.hid hcl1
          clear hcl1 hcl2 hcl3 hcl4 a0 a1
          go_loopw [14, 15] (fun tn ti wr => ∃ (j : Nat) (I : Int), ti = .int .i64 j ∧ j ≤ us.length ∧ tn = .int .i64 I ∧ (j < us.length → I = intoAt (carryL us cs 0) j) ∧ Below w4.heap.size w4 wr) (fun _ ti _ => us.length - (intOf ti).toNat)
          case atStart => exact ⟨0, 0, rfl, by omega, rfl, fun _ => rfl, Below.refl _ _⟩
          case round =>
            obtain ⟨j, I, rfl, hj, rfl, hII, hB⟩ := hrel
            have hBW4 := below_then HB4.out hB
            have a1 := (HKW.out _ hBW4).2
            by_cases hlt : j < us.length
            · obtain ⟨x, hx, hu, hn⟩ := HP.out j hlt
              have HNX := Lib.hid (show ∀ y, (carryL us cs 0)[j]? = some y → intoAt (carryL us cs 0) (j + 1) = y by intro y hy; simp [intoAt, List.getD, hy])
              have hI := HIB.out j
              have hX := HXB.out j x hx
              have HCE := Lib.hid (fun h => cntAt_get (cs := cs) (i := j) h)
              have HCN := Lib.hid (fun h => cntAt_none (cs := cs) (i := j) h)
              obtain ⟨z1, z2⟩ := cntAt_bd HCB.out j
              obtain ⟨ad3, e, q3⟩ := HQ3.out j (.int .i64 x) (by rw [List.getElem?_map, hx]; rfl)
              subst e
              have e3 := below_cell hB q3
              clear q3 hx
              have hIe := hII hlt
              rw [← hIe] at hI hu hn
              clear hIe hII
              generalize hcj : cntAt cs j = z at *
              clear hcj
              obtain ⟨I0, I1⟩ := hI
              have hji : (j : Int) < (us.length : Int) := by omega
              have hw : IntKind.i64.wrap ((j : Int) + 1) = (j : Int) + 1 := by rw [IntKind.wrap_i64]; omega
              have hjn : ((j : Int) + 1).toNat = j + 1 := by omega
              have hjp : (0 : Int) ≤ (j : Int) + 1 := by omega
              by_cases hjk : j < K
              · have h2 : j + 1 < us.length := by omega
                obtain ⟨y, hy, hid⟩ := hu us[j + 1] (List.getElem?_eq_getElem h2)
                have HNY := Lib.hid (HNX.out y hy)
                have hyb := HYB.out y (List.mem_of_getElem? hy)
                obtain ⟨ad4, e, q4⟩ := HQ4.out j (.int .i64 y) (by rw [List.getElem?_map, hy]; rfl)
                subst e
                have e4 := below_cell hB q4
                obtain ⟨b, o, e, _, hce⟩ := HQ1.out (by omega)
                subst e
                obtain ⟨_, g1⟩ := unitsV_get h2
                have e5 := below_cell hB (hce _ _ g1)
                rw [← Nat.add_assoc] at e5
                have hfu := HFC.out us[j + 1] (List.getElem_mem _)
                generalize us[j + 1].factor = f at *
                have hjl : (j : Int) + 1 < (us.length : Int) := by omega
                have hjK : (j : Int) < (K : Int) := by omega
                have hyf0 := Int.mul_nonneg hyb.1 (show 0 ≤ f by omega)
                have hyf : IntKind.i64.wrap (y * f) = y * f := by rw [IntKind.wrap_i64]; omega
                have hsm : x + y * f ≤ 9223372036854775807 := by omega
                have hyf1 : -9223372036854775808 ≤ y * f := by omega
                have hyf2 : y * f ≤ 9223372036854775807 := by omega
                clear q4 hce g1 hu hn hy
                by_cases hjc : j < cs.length
                · have hz := HCE.out hjc
                  obtain ⟨ad2, e, q2⟩ := HQ2.out j (.int .i64 cs[j]) (by rw [List.getElem?_map, List.getElem?_eq_getElem hjc]; rfl)
                  subst e
                  rw [← hz] at q2
                  have e2 := below_cell hB q2
                  have hbn : (I + z != x + y * f) = false := by simp [hid]
                  have HID := Lib.hid hid
                  clear q2 hz hid
                  go_wp2
                  go_quiet (fail)
                  go_wp2
                  go_roundw
                  case rel => exact ⟨j + 1, y, by simp, hlt, rfl, fun _ => HNY.out.symm, below_drewN hB _⟩
                  case measure => simp [intOf]; omega
                · have hz := HCN.out hjc
                  have hbn : (I != x + y * f) = false := by rw [hz] at hid; simp at hid; simp [hid]
                  have HID := Lib.hid hid
                  clear hz hid
                  go_wp2
                  go_quiet (fail)
                  go_wp2
                  go_roundw
                  case rel => exact ⟨j + 1, y, by simp, hlt, rfl, fun _ => HNY.out.symm, below_drewN hB _⟩
                  case measure => simp [intOf]; omega
              · have h2 : us[j + 1]? = none := List.getElem?_eq_none (by omega)
                have hid := hn h2
                have hjK : ¬ (j : Int) < (K : Int) := by omega
                have hend : j + 1 = us.length := by omega
                have HEND := Lib.hid hend
                clear hu hn h2 hend
                by_cases hjc : j < cs.length
                · have hz := HCE.out hjc
                  obtain ⟨ad2, e, q2⟩ := HQ2.out j (.int .i64 cs[j]) (by rw [List.getElem?_map, List.getElem?_eq_getElem hjc]; rfl)
                  subst e
                  rw [← hz] at q2
                  have e2 := below_cell hB q2
                  have hbn : (I + z != x) = false := by simp [hid]
                  have HID := Lib.hid hid
                  have hxs : x ≤ 9223372036854775807 := by omega
                  clear q2 hz hid
                  go_wp2
                  go_roundw
                  case rel => exact ⟨j + 1, I, by simp, hlt, rfl, fun h => by have := HEND.out; omega, hB⟩
                  case measure => simp [intOf]; omega
                · have hz := HCN.out hjc
                  have hxs : x ≤ 9223372036854775807 := by omega
                  have hbn : (I != x) = false := by rw [hz] at hid; simp at hid; simp [hid]
                  have HID := Lib.hid hid
                  clear hz hid
                  go_wp2
                  go_roundw
                  case rel => exact ⟨j + 1, I, by simp, hlt, rfl, fun h => by have := HEND.out; omega, hB⟩
                  case measure => simp [intOf]; omega
            · go_wp2_with (go_at_call 27; refine (C6.out _ (HB1.out.trans (hBW4.mono HB1.out.size))).mono ?_; rintro e w9 ⟨rfl, hb9⟩)
              go_ret
              exact ⟨rfl, HB1.out.trans ((below_then hBW4 hb9).mono HB1.out.size)⟩
      · have HCE : brL (rs.take k) = cs := by rw [← HCS.out, List.take_of_length_le (by omega), List.take_of_length_le (by omega)]
        obtain ⟨A2, c2, rfl, hown'⟩ := own_shape hown
        have HO := Lib.hid (Sl.of_own hown')
        rw [HCE] at HO
        obtain rfl : k = cs.length := by rw [← HCE, brL_length, List.length_take]; omega
        have HBW := Lib.hid hB
        clear hown hown' hB HCE
        go_wp2_with (first
          | (go_at_call_of 64 (Value.slice A2 cs.length c2); refine (HT.out _ _ A2 c2 _ (HSW.out _ HBW.out) HO.out).mono ?_; rintro e w2 ⟨rfl, hb2⟩; have HB2 := Lib.hid (below_then HBW.out hb2); have HO2 := Lib.hid (HO.out.below hb2); clear hb2 a0 a1; obtain ⟨a0, a1⟩ := HKW.out _ HB2.out)
          | (go_at_call 75; refine (HC.out _ _ A2 c2 _ (HSW.out _ HB2.out) HO2.out).mono ?_; rintro e w3 ⟨A3, c3, A4, c4, rfl, h3, h4, hb3⟩; have HB3 := Lib.hid (below_then HB2.out hb3); have HO3 := Lib.hid (HO2.out.below hb3); have HA3 := Lib.hid h3; have HA4 := Lib.hid h4; clear h3 h4 hb3 a0 a1; obtain ⟨a0, a1⟩ := HKW.out _ HB3.out)
          | (go_at_call 64; refine (HT2.out _ _ A3 c3 _ (HSW.out _ HB3.out) HA3.out).mono ?_; rintro e w4 ⟨rfl, hb4⟩; have HB4 := Lib.hid (below_then HB3.out hb4); have HO4 := Lib.hid (HO3.out.below hb4); have HA5 := Lib.hid (HA3.out.below hb4); have HA6 := Lib.hid (HA4.out.below hb4); clear hb4 a0 a1; obtain ⟨a0, a1⟩ := HKW.out _ HB4.out))
        obtain ⟨_, _, e, _, hcm2, hcl2⟩ := HO4.out.open1
        simp only [List.length_map] at e
        cases e
        obtain ⟨_, _, e, _, hcm3, hcl3⟩ := HA5.out.open1
        simp only [List.length_map, HSL.out] at e
        cases e
        obtain ⟨_, _, e, _, hcm4, hcl4⟩ := HA6.out.open1
        simp only [List.length_map, HCLN.out] at e
        cases e
        obtain ⟨_, _, _, e, _, _, hcm1, hcl1⟩ := (HSW.out _ HB4.out).open2 (by decide)
        cases e
        have HQ2 := Lib.hid hcl2
        have HQ3 := Lib.hid hcl3
        have HQ4 := Lib.hid hcl4
        have HQ1 := Lib.hid hcl1
        clear hcl1 hcl2 hcl3 hcl4 a0 a1
        go_loopw [14, 15] (fun tn ti wr => ∃ (j : Nat) (I : Int), ti = .int .i64 j ∧ j ≤ us.length ∧ tn = .int .i64 I ∧ (j < us.length → I = intoAt (carryL us cs 0) j) ∧ Below w4.heap.size w4 wr) (fun _ ti _ => us.length - (intOf ti).toNat)
        case atStart => exact ⟨0, 0, rfl, by omega, rfl, fun _ => rfl, Below.refl _ _⟩
        case round =>
          obtain ⟨j, I, rfl, hj, rfl, hII, hB⟩ := hrel
          have hBW4 := below_then HB4.out hB
          have a1 := (HKW.out _ hBW4).2
          by_cases hlt : j < us.length
          · obtain ⟨x, hx, hu, hn⟩ := HP.out j hlt
            have HNX := Lib.hid (show ∀ y, (carryL us cs 0)[j]? = some y → intoAt (carryL us cs 0) (j + 1) = y by intro y hy; simp [intoAt, List.getD, hy])
            have hI := HIB.out j
            have hX := HXB.out j x hx
            have HCE := Lib.hid (fun h => cntAt_get (cs := cs) (i := j) h)
            have HCN := Lib.hid (fun h => cntAt_none (cs := cs) (i := j) h)
            obtain ⟨z1, z2⟩ := cntAt_bd HCB.out j
            obtain ⟨ad3, e, q3⟩ := HQ3.out j (.int .i64 x) (by rw [List.getElem?_map, hx]; rfl)
            subst e
            have e3 := below_cell hB q3
            clear q3 hx
            have hIe := hII hlt
            rw [← hIe] at hI hu hn
            clear hIe hII
            generalize hcj : cntAt cs j = z at *
            clear hcj
            obtain ⟨I0, I1⟩ := hI
            have hji : (j : Int) < (us.length : Int) := by omega
            have hw : IntKind.i64.wrap ((j : Int) + 1) = (j : Int) + 1 := by rw [IntKind.wrap_i64]; omega
            have hjn : ((j : Int) + 1).toNat = j + 1 := by omega
            have hjp : (0 : Int) ≤ (j : Int) + 1 := by omega
            by_cases hjk : j < K
            · have h2 : j + 1 < us.length := by omega
              obtain ⟨y, hy, hid⟩ := hu us[j + 1] (List.getElem?_eq_getElem h2)
              have HNY := Lib.hid (HNX.out y hy)
              have hyb := HYB.out y (List.mem_of_getElem? hy)
              obtain ⟨ad4, e, q4⟩ := HQ4.out j (.int .i64 y) (by rw [List.getElem?_map, hy]; rfl)
              subst e
              have e4 := below_cell hB q4
              obtain ⟨b, o, e, _, hce⟩ := HQ1.out (by omega)
              subst e
              obtain ⟨_, g1⟩ := unitsV_get h2
              have e5 := below_cell hB (hce _ _ g1)
              rw [← Nat.add_assoc] at e5
              have hfu := HFC.out us[j + 1] (List.getElem_mem _)
              generalize us[j + 1].factor = f at *
              have hjl : (j : Int) + 1 < (us.length : Int) := by omega
              have hjK : (j : Int) < (K : Int) := by omega
              have hyf0 := Int.mul_nonneg hyb.1 (show 0 ≤ f by omega)
              have hyf : IntKind.i64.wrap (y * f) = y * f := by rw [IntKind.wrap_i64]; omega
              have hsm : x + y * f ≤ 9223372036854775807 := by omega
              have hyf1 : -9223372036854775808 ≤ y * f := by omega
              have hyf2 : y * f ≤ 9223372036854775807 := by omega
              clear q4 hce g1 hu hn hy
              by_cases hjc : j < cs.length
              · have hz := HCE.out hjc
                obtain ⟨ad2, e, q2⟩ := HQ2.out j (.int .i64 cs[j]) (by rw [List.getElem?_map, List.getElem?_eq_getElem hjc]; rfl)
                subst e
                rw [← hz] at q2
                have e2 := below_cell hB q2
                have hbn : (I + z != x + y * f) = false := by simp [hid]
                have HID := Lib.hid hid
                clear q2 hz hid
                go_wp2
                go_quiet (fail)
                go_wp2
                go_roundw
                case rel => exact ⟨j + 1, y, by simp, hlt, rfl, fun _ => HNY.out.symm, below_drewN hB _⟩
                case measure => simp [intOf]; omega
              · have hz := HCN.out hjc
                have hbn : (I != x + y * f) = false := by rw [hz] at hid; simp at hid; simp [hid]
                have HID := Lib.hid hid
                clear hz hid
                go_wp2
                go_quiet (fail)
                go_wp2
                go_roundw
                case rel => exact ⟨j + 1, y, by simp, hlt, rfl, fun _ => HNY.out.symm, below_drewN hB _⟩
                case measure => simp [intOf]; omega
            · have h2 : us[j + 1]? = none := List.getElem?_eq_none (by omega)
              have hid := hn h2
              have hjK : ¬ (j : Int) < (K : Int) := by omega
              have hend : j + 1 = us.length := by omega
              have HEND := Lib.hid hend
              clear hu hn h2 hend
              by_cases hjc : j < cs.length
              · have hz := HCE.out hjc
                obtain ⟨ad2, e, q2⟩ := HQ2.out j (.int .i64 cs[j]) (by rw [List.getElem?_map, List.getElem?_eq_getElem hjc]; rfl)
                subst e
                rw [← hz] at q2
                have e2 := below_cell hB q2
                have hbn : (I + z != x) = false := by simp [hid]
                have HID := Lib.hid hid
                have hxs : x ≤ 9223372036854775807 := by omega
                clear q2 hz hid
                go_wp2
                go_roundw
                case rel => exact ⟨j + 1, I, by simp, hlt, rfl, fun h => by have := HEND.out; omega, hB⟩
                case measure => simp [intOf]; omega
              · have hz := HCN.out hjc
                have hxs : x ≤ 9223372036854775807 := by omega
                have hbn : (I != x) = false := by rw [hz] at hid; simp at hid; simp [hid]
                have HID := Lib.hid hid
                clear hz hid
                go_wp2
                go_roundw
                case rel => exact ⟨j + 1, I, by simp, hlt, rfl, fun h => by have := HEND.out; omega, hB⟩
                case measure => simp [intOf]; omega
          · go_wp2_with (go_at_call 27; refine (C6.out _ (HB1.out.trans (hBW4.mono HB1.out.size))).mono ?_; rintro e w9 ⟨rfl, hb9⟩)
            go_ret
            exact ⟨rfl, HB1.out.trans ((below_then hBW4 hb9).mono HB1.out.size)⟩
  · have hcv := HCV.out
    rw [h6] at hcv HT
    rw [if_neg (by decide)] at hcv
    rw [hcv] at HC
    clear HTO HKP HCV HTS h6 hcv
    go_enter Tryd.func18, Tryd.ntmps18
    go_wp2_with (go_at_call 49; refine HV.out.mono ?_; rintro e w1 ⟨A1, c1, rfl, hs1, hb1⟩; have HB1 := Lib.hid (hb1.alloc hb1.size (.cells #[.string (⟨#[111, 119, 110]⟩ : ByteArray), .slice A1 us.length c1] 33)); have HS1 := Lib.hid (hs1.alloc (.cells #[.string (⟨#[111, 119, 110]⟩ : ByteArray), .slice A1 us.length c1] 33)); have HY1 := Lib.hid (Cel.new w1 33 #[.string (⟨#[111, 119, 110]⟩ : ByteArray), .slice A1 us.length c1]); clear hs1 hb1)
    obtain ⟨W, hW⟩ : ∃ W, w1.alloc (.cells #[.string (⟨#[111, 119, 110]⟩ : ByteArray), .slice A1 us.length c1] 33) = W := ⟨_, rfl⟩
    rw [hW] at HB1 HS1 HY1 ⊢
    clear hW
    have HSW : Hid (∀ w', Below W.heap.size W w' → Sl w' 2 (.slice A1 us.length c1) (unitsV us)) := fun w' hb => HS1.out.below hb
    have HKW : Hid (∀ w', Below W.heap.size W w' → w'.cell? ⟨w1.heap.size, 0, none⟩ = some (.string (⟨#[111, 119, 110]⟩ : ByteArray)) ∧ w'.cell? ⟨w1.heap.size, 1, none⟩ = some (.slice A1 us.length c1)) := fun w' hb => ⟨(HY1.out.below HY1.out.lt hb).cell 0 _ rfl, (HY1.out.below HY1.out.lt hb).cell 1 _ rfl⟩
    go_loopw [6, 7] (fun tv ti wr => ∃ k : Nat, ti = .int .i64 k ∧ k ≤ rs.length ∧ k ≤ us.length ∧ wr.ownsRow W.heap.size 3 1 tv k ((brL (rs.take k)).map (Value.int .i64)) ∧ Below W.heap.size W wr) (fun _ ti _ => rs.length - (intOf ti).toNat)
    case atStart => exact ⟨0, rfl, by omega, by omega, World.ownsRow_nil _ _ _ _, Below.refl _ _⟩
    case round =>
      obtain ⟨k, rfl, hk1, hk2, hown, hB⟩ := hrel
      obtain ⟨a0, a1⟩ := HKW.out _ hB
      have hsz := hB.size
      by_cases hlt : k < rs.length
      · by_cases hlu : k < us.length
        · obtain ⟨ad, e, q0⟩ := HRC.out k (.int .i64 rs[k]) (by rw [List.getElem?_map, List.getElem?_eq_getElem hlt]; rfl)
          subst e
          have e0 := below_cell (HB1.out.trans (hB.mono HB1.out.size)) q0
          have HTK := Lib.hid (show brL (rs.take (k + 1)) = brL (rs.take k) ++ [rs[k] % 1000001] by rw [List.take_succ_eq_append_getElem hlt]; unfold brL; rw [List.map_append]; rfl)
          have HBR := Lib.hid (fun W => HB9.out rs[k] W (HRB.out _ (List.getElem_mem _)))
          generalize rs[k] = r at *
          have hr1 := Int.emod_nonneg r (show (1000001 : Int) ≠ 0 by decide)
          have hr2 := Int.emod_lt_of_pos r (show (0 : Int) < 1000001 by decide)
          clear q0
          go_wp2_with (first
            | (go_at_call 36; refine (HBR.out _).mono ?_; rintro e w2 ⟨rfl, rfl⟩)
            | (at_builtin; refine appInt _ _ rfl rfl rfl rfl (hown.alloc _) (Sl.new (s := 1) wr 3 1 1 _ rfl (by omega) (by omega)) (by simp [Value.oneCell']) rfl (by simp; omega) (by simp; omega) ?_; intro A2 c2 w2 hap))
          have hb1 := below_of_own hap.grown (hown.alloc _) (hB.alloc hsz (.cells #[.int .i64 (r % 1000001)] 3)) (Nat.le_refl _)
          have hap1 := hap.own
          clear hap
          go_wp2
          go_roundw
          case rel => exact ⟨k + 1, by simp, hlt, hlu, by rw [HTK.out]; simpa using hap1, hb1⟩
          case measure => simp [intOf]; omega
        · have HCE : brL (rs.take k) = cs := by rw [← HCS.out, show k = us.length by omega]
          obtain ⟨A2, c2, rfl, hown'⟩ := own_shape hown
          have HO := Lib.hid (Sl.of_own hown')
          rw [HCE] at HO
          obtain rfl : k = cs.length := by rw [← HCE, brL_length, List.length_take]; omega
          have HBW := Lib.hid hB
          clear hown hown' hB HCE
          go_wp2_with (first
            | (go_at_call 64; refine (HT.out _ _ A2 c2 _ (HSW.out _ HBW.out) HO.out).mono ?_; rintro e w2 ⟨rfl, hb2⟩; have HB2 := Lib.hid (below_then HBW.out hb2); have HO2 := Lib.hid (HO.out.below hb2); clear hb2 a0 a1; obtain ⟨a0, a1⟩ := HKW.out _ HB2.out)
            | (go_at_call 75; refine (HC.out _ _ A2 c2 _ (HSW.out _ HB2.out) HO2.out).mono ?_; rintro e w3 ⟨va, vb, rfl, _, _, hb3⟩; have HB3 := Lib.hid (below_then HB2.out hb3); clear hb3 a0 a1; obtain ⟨a0, a1⟩ := HKW.out _ HB3.out)
            | (go_at_call 27; refine (C6.out _ (HB1.out.trans (HB3.out.mono HB1.out.size))).mono ?_; rintro e w4 ⟨rfl, hb4⟩))
          go_ret
          exact ⟨rfl, HB1.out.trans ((below_then HB3.out hb4).mono HB1.out.size)⟩
      · have HCE : brL (rs.take k) = cs := by rw [← HCS.out, List.take_of_length_le (by omega), List.take_of_length_le (by omega)]
        obtain ⟨A2, c2, rfl, hown'⟩ := own_shape hown
        have HO := Lib.hid (Sl.of_own hown')
        rw [HCE] at HO
        obtain rfl : k = cs.length := by rw [← HCE, brL_length, List.length_take]; omega
        have HBW := Lib.hid hB
        clear hown hown' hB HCE
        go_wp2_with (first
          | (go_at_call 64; refine (HT.out _ _ A2 c2 _ (HSW.out _ HBW.out) HO.out).mono ?_; rintro e w2 ⟨rfl, hb2⟩; have HB2 := Lib.hid (below_then HBW.out hb2); have HO2 := Lib.hid (HO.out.below hb2); clear hb2 a0 a1; obtain ⟨a0, a1⟩ := HKW.out _ HB2.out)
          | (go_at_call 75; refine (HC.out _ _ A2 c2 _ (HSW.out _ HB2.out) HO2.out).mono ?_; rintro e w3 ⟨va, vb, rfl, _, _, hb3⟩; have HB3 := Lib.hid (below_then HB2.out hb3); clear hb3 a0 a1; obtain ⟨a0, a1⟩ := HKW.out _ HB3.out)
          | (go_at_call 27; refine (C6.out _ (HB1.out.trans (HB3.out.mono HB1.out.size))).mono ?_; rintro e w4 ⟨rfl, hb4⟩))
        go_ret
        exact ⟨rfl, HB1.out.trans ((below_then HB3.out hb4).mono HB1.out.size)⟩
end Go.Proofs.YtmibpncmebhbjaaDoor
