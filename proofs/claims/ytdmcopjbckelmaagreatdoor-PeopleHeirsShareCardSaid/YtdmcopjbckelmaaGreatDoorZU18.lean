/- Walks of the reference: Heirs. Conditions: those stated. -/
import Derived.Test.YtdmcopjbckelmaaGreatDoorZU3
import Derived.Test.YtdmcopjbckelmaaGreatDoorZU0
import Derived.Test.YtdmcopjbckelmaaGreatDoorZU17
import Derived.Test.YtdmcopjbckelmaaGreatDoorZI4
namespace Go.Proofs.YtdmcopjbckelmaaGreatDoor
open Go Go.RowKit Go.Shelf
attribute [local go_sem] Oper.semAt_some
set_option maxRecDepth 100000 in
set_option maxHeartbeats 8000000 in
theorem rheirs_bad (r : Int) (hr : r = 3 ∨ r = 100 ∨ r = 2) (A : Option Addr) (c : Nat) (F : Option Addr) (d : Nat) (ps : List ByteArray) (fs : List Fa) (a : ByteArray) (w : World) (h : NetC w A ps.length c F fs.length d ps fs) (hs : Short ps) (hc : namedF ps fs [a] = r) :
    Calls Tryz.prog 13 #[.agg #[.slice A ps.length c, .slice F fs.length d], .string a] w (HeirsP ([], r) w) := by
  have hb0 := below_alloc' w (.cells #[.slice A ps.length c, .slice F fs.length d] 25)
  have HY := Lib.hid (Cel.new w 25 #[.slice A ps.length c, .slice F fs.length d])
  have HC := Lib.hid (rchildren_any A ps.length c F fs.length d ps fs a _ (h.below hb0) hs)
  rw [hc] at HC
  unfold NamesP at HC
  clear h hs hc
  have z0 := HY.out.cell 0 _ rfl
  have z1 := HY.out.cell 1 _ rfl
  rcases hr with rfl | rfl | rfl
  all_goals
    go_enter Tryz.func13, Tryz.ntmps13
    go_wp2_with fail
    refine HC.out.mono ?_
    rintro e w1 ⟨hb1, v, rfl, hv⟩
    obtain ⟨Av, nv, cv, rfl, _⟩ := hv.shape
    have HB := Lib.hid (hb0.trans (hb1.mono hb0.size))
    clear hb0 hb1 HC z0 z1 hv
    go_wp2
    go_ret2
    exact ⟨HB.out, _, rfl, Sl.nil0 _ _⟩
set_option maxRecDepth 100000 in
set_option maxHeartbeats 8000000 in
theorem rheirs_contrary (A : Option Addr) (c : Nat) (F : Option Addr) (d : Nat) (ps : List ByteArray) (fs : List Fa) (a : ByteArray) (w : World) (h : NetC w A ps.length c F fs.length d ps fs) (hs : Short ps) (hc : namedF ps fs [a] = 0) (hp : ps.length ≤ 24) (hfew : fs.length ≤ 48) (hf : AllAbout ps fs) (hn : solveF ps fs = none) :
    Calls Tryz.prog 13 #[.agg #[.slice A ps.length c, .slice F fs.length d], .string a] w (HeirsP ([], 101) w) := by
  have hb0 := below_alloc' w (.cells #[.slice A ps.length c, .slice F fs.length d] 25)
  have HY := Lib.hid (Cel.new w 25 #[.slice A ps.length c, .slice F fs.length d])
  have HC := Lib.hid (rchildren_any A ps.length c F fs.length d ps fs a _ (h.below hb0) hs)
  rw [hc, if_pos rfl] at HC
  unfold NamesP at HC
  have HSo := Lib.hid (fun w' (hw : Below w.heap.size w w') => rsolved2 (.slice A ps.length c) (.slice F fs.length d) ps fs w' (h.below hw).people (h.below hw).facts hp (by omega) hf)
  have HNo := Lib.hid hn
  clear h hs hc hp hfew hf hn
  go_enter Tryz.func13, Tryz.ntmps13
  have z0 := HY.out.cell 0 _ rfl
  have z1 := HY.out.cell 1 _ rfl
  go_wp2_with fail
  refine HC.out.mono ?_
  rintro e w1 ⟨hb1, v, rfl, hv⟩
  have HB1 := Lib.hid (hb0.trans (hb1.mono hb0.size))
  replace HY := Lib.hid (HY.out.below HY.out.lt hb1)
  obtain ⟨Av, cv, rfl, hv1, hv2, hcell⟩ := names_at0 hv
  have HCh := Lib.hid hcell
  clear hb0 hb1 HC z0 z1 hcell hv
  have z0 := HY.out.cell 0 _ rfl
  have z1 := HY.out.cell 1 _ rfl
  go_wp2_with fail
  refine (HSo.out _ HB1.out).mono ?_
  rintro e w2 ⟨hb2, hq⟩
  have HB2 := Lib.hid (HB1.out.trans (hb2.mono HB1.out.size))
  replace HY := Lib.hid (HY.out.below HY.out.lt hb2)
  rcases hq with ⟨_, rfl⟩ | ⟨E, Mx, B, vs, hq, _⟩
  · clear hb2 z0 z1
    go_wp2
    go_ret2
    exact ⟨HB2.out, _, rfl, Sl.nil0 _ _⟩
  · rw [HNo.out] at hq
    cases hq
set_option maxRecDepth 100000 in
set_option maxHeartbeats 8000000 in
theorem rheirs_good (A : Option Addr) (c : Nat) (F : Option Addr) (d : Nat) (ps : List ByteArray) (fs : List Fa) (a : ByteArray) (w : World) (h : NetC w A ps.length c F fs.length d ps fs) (hs : Short ps) (hc : namedF ps fs [a] = 0) (hp : ps.length ≤ 24) (hfew : fs.length ≤ 48) (hf : AllAbout ps fs) (Dm : Mat) (hD : solveF ps fs = some Dm) (ch : List ByteArray) (hch : childrenF fs a = ch) (fi : ByteArray) (parts : Nat) (hne : ¬ (⟨#[]⟩ : ByteArray) ∈ ch)
    (hfi : firstF ch (elderF Dm ps ch ch) = fi) (hpa : partsF ch (elderF Dm ps ch ch) = parts) :
    Calls Tryz.prog 13 #[.agg #[.slice A ps.length c, .slice F fs.length d], .string a] w (HeirsP (sharesV fi parts ch, 0) w) := by
  have hb0 := below_alloc' w (.cells #[.slice A ps.length c, .slice F fs.length d] 25)
  have HY := Lib.hid (Cel.new w 25 #[.slice A ps.length c, .slice F fs.length d])
  have HC := Lib.hid (rchildren_any A ps.length c F fs.length d ps fs a _ (h.below hb0) hs)
  rw [hc, if_pos rfl] at HC
  unfold NamesP at HC
  have HSo := Lib.hid (fun w' (hw : Below w.heap.size w w') => rsolved2 (.slice A ps.length c) (.slice F fs.length d) ps fs w' (h.below hw).people (h.below hw).facts hp (by omega) hf)
  rw [hch] at HC
  have hin : ∀ s ∈ ch, s ∈ ps := fun s hs' => childrenF_mem hf (s := a) (by rw [hch]; exact hs')
  have hcl : ch.length ≤ 48 := by rw [← hch]; exact Nat.le_trans (childrenF_length fs a) hfew
  have hnd : ch.Nodup := by rw [← hch]; exact heirs_nodup fs a
  have HPs := Lib.hid (fun w' (hw : Below w.heap.size w w') => (h.below hw).people)
  have HFo := Lib.hid (fun (M : Mat) B vs s t w' (e' : solvedF ps fs = some M) (hC : Cel w' B 150 vs) (hV : Ls (1 + 2 * ps.length) vs M) (hw : Below w.heap.size w w') (hs' : s ∈ ch) (ht : t ∈ ch) (hst : s ≠ t) => show Calls Tryz.prog 66 #[.pointer (some ⟨B, 0, none⟩), .slice A ps.length c, .agg #[.int .i64 3, .string s, .string t, .int .i64 0]] w' fun e w'' => e = .returned (.bool (mustB Dm ps ⟨3, s, t, 0⟩)) ∧ Below w'.heap.size w' w'' from by
    have hab : aboutB ps ⟨3, s, t, 0⟩ = true := aboutB_iff.2 ⟨⟨show (1 : Int) ≤ 3 by decide, show (3 : Int) ≤ 7 by decide⟩, hin s hs', fun _ => ⟨fun q => hst q.symm, hin t ht, rfl⟩, fun q => absurd (show (3 : Int) ≤ 3 by decide) q⟩
    rw [← fol_must hp hf hD e' hab]
    exact follows_any B M vs (.slice A ps.length c) ps ⟨3, s, t, 0⟩ w' hC hV (h.below hw).people hp hab)
  have HEnd := Lib.hid (fun (el : Int) (mn : Nat) (hE : ElS Dm ps ch ch.length el mn) => hE.end_ hnd hne)
  rw [hfi, hpa] at HEnd
  have HNd := Lib.hid hnd
  have HDm := Lib.hid hD
  have hpl : parts ≤ 49 := by
    rw [← hpa]
    unfold partsF
    split <;> omega
  have HRa := Lib.hid (fun (k : Int) w' (hk : k = 1 ∨ k = 2) => rratio_any k (parts : Int) w' (by omega) (by omega) (by omega) (by omega))
  have HE0 := Lib.hid (ElS.start Dm ps ch)
  clear h hs hc hp hfew hf hD hch hin hnd hfi hpa hne
  go_enter Tryz.func13, Tryz.ntmps13
  have z0 := HY.out.cell 0 _ rfl
  have z1 := HY.out.cell 1 _ rfl
  go_wp2_with fail
  refine HC.out.mono ?_
  rintro e w1 ⟨hb1, v, rfl, hv⟩
  have HB1 := Lib.hid (hb0.trans (hb1.mono hb0.size))
  replace HY := Lib.hid (HY.out.below HY.out.lt hb1)
  obtain ⟨Av, cv, rfl, hv1, hv2, hcell⟩ := names_at0 hv
  have HCh := Lib.hid hcell
  clear hb0 hb1 HC z0 z1 hcell hv
  have z0 := HY.out.cell 0 _ rfl
  have z1 := HY.out.cell 1 _ rfl
  go_wp2_with fail
  refine (HSo.out _ HB1.out).mono ?_
  rintro e w2 ⟨hb2, hq⟩
  have HB2 := Lib.hid (HB1.out.trans (hb2.mono HB1.out.size))
  replace HY := Lib.hid (HY.out.below HY.out.lt hb2)
  rcases hq with ⟨hq, _⟩ | ⟨E, Mx, Bm, vs, hE, hM, rfl, hBm, hLs, hCm⟩
  · rw [HDm.out] at hq
    cases hq
  · have HCm := Lib.hid hCm
    have HLs := Lib.hid hLs
    have HMx := Lib.hid hM
    have HV2 := Lib.hid hb2
    clear hb2 z0 z1 hE hM hLs hCm hBm
    have HU0 := Lib.hid (Below.refl w2.heap.size w2)
    go_wp2
    go_loopw [10, 11, 12] (fun t10 t11 ti wr => ∃ (i : Nat) (el : Int) (mn : Nat), ti = .int .i64 i ∧ t10 = .int .i64 el ∧ t11 = .int .i64 mn ∧ i ≤ ch.length ∧ Hid (ElS Dm ps ch i el mn) ∧ Hid (Below w2.heap.size w2 wr)) (fun _ _ ti _ => ch.length - (intOf ti).toNat)
    case atStart => exact ⟨0, -1, 0, rfl, rfl, rfl, by omega, HE0.out, HU0.out⟩
    case round =>
      clear HE0 HU0
      obtain ⟨i, el, mn, rfl, rfl, rfl, hi, HE, HU⟩ := hrel
      obtain ⟨wo, hwo⟩ : ∃ wo, wo = wr := ⟨_, rfl⟩
      rw [← hwo] at HU ⊢
      clear hwo
      by_cases hlt : i < ch.length
      · have hii : (i : Int) < (ch.length : Int) := by omega
        have hi0 : (0 : Int) ≤ (i : Int) := by omega
        have hmn := HE.out.2.1
        obtain ⟨b0, o0, rfl, _, hce⟩ := HCh.out (by omega)
        obtain ⟨s, hget⟩ : ∃ s, ch[i]? = some s := ⟨_, List.getElem?_eq_getElem hlt⟩
        have HCe := Lib.hid (fun k x hk => below_cell HV2.out (hce k x hk))
        have HGs := Lib.hid hget
        have HYe := Lib.hid (fun he => HE.out.yes hget he)
        have HNo := Lib.hid (fun he => HE.out.no hget he)
        clear hce hget
        have HQ0 := Lib.hid (show true = elk Dm ps ch s 0 from (elk_zero Dm ps ch s).symm)
        go_wp2
        go_loopw [13, 14] (fun t13 ti wr => ∃ (k : Nat) (q : Bool), ti = .int .i64 k ∧ t13 = .bool q ∧ Hid (q = elk Dm ps ch s k) ∧ k ≤ ch.length ∧ Hid (Below w2.heap.size w2 wr)) (fun _ ti _ => ch.length - (intOf ti).toNat)
        case atStart => exact ⟨0, true, rfl, rfl, HQ0.out, by omega, HU.out⟩
        case round =>
          clear HQ0 HU
          obtain ⟨k, q, rfl, rfl, HQ, hk, HU⟩ := hrel
          by_cases hlk : k < ch.length
          · have hki : (k : Int) < (ch.length : Int) := by omega
            have hk0 : (0 : Int) ≤ (k : Int) := by omega
            obtain ⟨t, hgt⟩ : ∃ t, ch[k]? = some t := ⟨_, List.getElem?_eq_getElem hlk⟩
            have HBu := Lib.hid (HB2.out.trans (HU.out.mono HB2.out.size))
            have c1 := below_cell HU.out (HCe.out i s HGs.out)
            have c2 := below_cell HU.out (HCe.out k t hgt)
            have z0 := (HY.out.below HY.out.lt HU.out).cell 0 _ rfl
            cases q with
            | false =>
              have HN := Lib.hid (show false = elk Dm ps ch s (k + 1) by rw [elk_succ hgt, ← HQ.out]; rfl)
              clear hgt HQ
              go_upto_region 15 with fail
              refine wp_region_held_drew (S := fun w' => Below wr.heap.size wr w') (by kernel_rfl) (below_drew (Below.refl _ _)) (fun hHeld => ?_)
              refine wpAnyH_takeD (i := 0) (v := ?_) 52 rfl (by kernel_rfl) (by kernel_rfl) (by kernel_rfl) (fun _ _ _ h => h) (Or.inl ⟨by rfl, ?_⟩) (by assumption) rfl ?_
              rotate_left
              · intro w' hSw
                have c1 := below_cell hSw c1; have c2 := below_cell hSw c2; have z0 := below_cell hSw z0
                go_simp <;> with_reducible rfl
              simp only [List.setIfInBounds_toArray, List.set_cons_succ, List.set_cons_zero]
              refine wpAnyH_takeD (i := 1) (v := ?_) 53 rfl (by kernel_rfl) (by kernel_rfl) (by kernel_rfl) (fun _ _ _ h => h) (Or.inl ⟨by rfl, ?_⟩) (by assumption) rfl ?_
              rotate_left
              · intro w' hSw
                have c1 := below_cell hSw c1; have c2 := below_cell hSw c2; have z0 := below_cell hSw z0
                go_simp <;> with_reducible rfl
              simp only [List.setIfInBounds_toArray, List.set_cons_succ, List.set_cons_zero]
              refine wpAnyH_takeD (i := 2) 54 rfl (by kernel_rfl) (by kernel_rfl) (by kernel_rfl) (fun _ _ _ h => h) (Or.inr ⟨by kernel_rfl, rfl⟩) (by assumption) rfl ?_
              simp only [List.setIfInBounds_toArray, List.set_cons_succ, List.set_cons_zero]
              refine wpAnyH_takeD (i := 3) 55 rfl (by kernel_rfl) (by kernel_rfl) (by kernel_rfl) (fun _ _ _ h => h) (Or.inr ⟨by kernel_rfl, rfl⟩) (by assumption) rfl ?_
              simp only [List.setIfInBounds_toArray, List.set_cons_succ, List.set_cons_zero]
              refine wpAnyH_takeD (i := 4) 56 rfl (by kernel_rfl) (by kernel_rfl) (by kernel_rfl) (fun _ _ _ h => h) (Or.inr ⟨by kernel_rfl, rfl⟩) (by assumption) rfl ?_
              simp only [List.setIfInBounds_toArray, List.set_cons_succ, List.set_cons_zero]
              refine wpAnyH_takeD (i := 5) 57 rfl (by kernel_rfl) (by kernel_rfl) (by kernel_rfl) (fun _ _ _ h => h) (Or.inr ⟨by kernel_rfl, rfl⟩) (by assumption) rfl ?_
              simp only [List.setIfInBounds_toArray, List.set_cons_succ, List.set_cons_zero]
              refine wpAnyH_takeD (i := 6) 58 rfl (by kernel_rfl) (by kernel_rfl) (by kernel_rfl) (fun _ _ _ h => h) (Or.inr ⟨by kernel_rfl, rfl⟩) (by assumption) rfl ?_
              simp only [List.setIfInBounds_toArray, List.set_cons_succ, List.set_cons_zero]
              refine wpAnyH_takeD (i := 7) 59 rfl (by kernel_rfl) (by kernel_rfl) (by kernel_rfl) (fun _ _ _ h => h) (Or.inr ⟨by kernel_rfl, rfl⟩) (by assumption) rfl ?_
              simp only [List.setIfInBounds_toArray, List.set_cons_succ, List.set_cons_zero]
              refine wpAnyH_takeD (i := 8) 60 rfl (by kernel_rfl) (by kernel_rfl) (by kernel_rfl) (fun _ _ _ h => h) (Or.inr ⟨by kernel_rfl, rfl⟩) (by assumption) rfl ?_
              simp only [List.setIfInBounds_toArray, List.set_cons_succ, List.set_cons_zero]
              refine wpAnyH_takeD (i := 9) 61 rfl (by kernel_rfl) (by kernel_rfl) (by kernel_rfl) (fun _ _ _ h => h) (Or.inr ⟨by kernel_rfl, rfl⟩) (by assumption) rfl ?_
              simp only [List.setIfInBounds_toArray, List.set_cons_succ, List.set_cons_zero]
              refine wpAnyH_takeD (i := 10) 62 rfl (by kernel_rfl) (by kernel_rfl) (by kernel_rfl) (fun _ _ _ h => h) (Or.inr ⟨by kernel_rfl, rfl⟩) (by assumption) rfl ?_
              simp only [List.setIfInBounds_toArray, List.set_cons_succ, List.set_cons_zero]
              refine wpAnyH_takeD (i := 11) 63 rfl (by kernel_rfl) (by kernel_rfl) (by kernel_rfl) (fun _ _ _ h => h) (Or.inr ⟨by kernel_rfl, rfl⟩) (by assumption) rfl ?_
              simp only [List.setIfInBounds_toArray, List.set_cons_succ, List.set_cons_zero]
              refine wpAnyH_takeD (i := 12) 64 rfl (by kernel_rfl) (by kernel_rfl) (by kernel_rfl) (fun _ _ _ h => h) (Or.inr ⟨by kernel_rfl, rfl⟩) (by assumption) rfl ?_
              simp only [List.setIfInBounds_toArray, List.set_cons_succ, List.set_cons_zero]
              refine wpAnyH_takeD (i := 13) 65 rfl (by kernel_rfl) (by kernel_rfl) (by kernel_rfl) (fun _ _ _ h => h) (Or.inr ⟨by kernel_rfl, rfl⟩) (by assumption) rfl ?_
              simp only [List.setIfInBounds_toArray, List.set_cons_succ, List.set_cons_zero]
              refine wpAnyH_takeD (i := 14) 66 rfl (by kernel_rfl) (by kernel_rfl) (by kernel_rfl) (fun _ _ _ h => h) (Or.inr ⟨by kernel_rfl, rfl⟩) (by assumption) rfl ?_
              simp only [List.setIfInBounds_toArray, List.set_cons_succ, List.set_cons_zero]
              refine wpAnyH_takeD (i := 15) 67 rfl (by kernel_rfl) (by kernel_rfl) (by kernel_rfl) (fun _ _ _ h => h) (Or.inr ⟨by kernel_rfl, rfl⟩) (by assumption) rfl ?_
              simp only [List.setIfInBounds_toArray, List.set_cons_succ, List.set_cons_zero]
              refine wpAnyH_takeD (i := 16) 68 rfl (by kernel_rfl) (by kernel_rfl) (by kernel_rfl) (fun _ _ _ h => h) (Or.inr ⟨by kernel_rfl, rfl⟩) (by assumption) rfl ?_
              simp only [List.setIfInBounds_toArray, List.set_cons_succ, List.set_cons_zero]
              refine wpAnyH_takeD (i := 17) 69 rfl (by kernel_rfl) (by kernel_rfl) (by kernel_rfl) (fun _ _ _ h => h) (Or.inr ⟨by kernel_rfl, rfl⟩) (by assumption) rfl ?_
              simp only [List.setIfInBounds_toArray, List.set_cons_succ, List.set_cons_zero]
              refine wpAnyH_takeD (i := 18) 70 rfl (by kernel_rfl) (by kernel_rfl) (by kernel_rfl) (fun _ _ _ h => h) (Or.inr ⟨by kernel_rfl, rfl⟩) (by assumption) rfl ?_
              simp only [List.setIfInBounds_toArray, List.set_cons_succ, List.set_cons_zero]
              refine wpAnyH_takeD (i := 19) 71 rfl (by kernel_rfl) (by kernel_rfl) (by kernel_rfl) (fun _ _ _ h => h) (Or.inr ⟨by kernel_rfl, rfl⟩) (by assumption) rfl ?_
              simp only [List.setIfInBounds_toArray, List.set_cons_succ, List.set_cons_zero]
              refine wpAnyH_takeD (i := 20) (v := ?_) 72 rfl (by kernel_rfl) (by kernel_rfl) (by kernel_rfl) (fun _ _ _ h => h) (Or.inl ⟨by rfl, ?_⟩) (by assumption) rfl ?_
              rotate_left
              · intro w' hSw
                have c1 := below_cell hSw c1; have c2 := below_cell hSw c2; have z0 := below_cell hSw z0
                go_simp <;> with_reducible rfl
              simp only [List.setIfInBounds_toArray, List.set_cons_succ, List.set_cons_zero]
              refine wpAnyH_takeD (i := 21) (v := ?_) 13 rfl (by kernel_rfl) (by kernel_rfl) (by kernel_rfl) (fun _ _ _ h => h) (Or.inl ⟨by rfl, ?_⟩) (by assumption) rfl ?_
              rotate_left
              · intro w' hSw
                have c1 := below_cell hSw c1; have c2 := below_cell hSw c2; have z0 := below_cell hSw z0
                go_simp <;> with_reducible rfl
              simp only [List.setIfInBounds_toArray, List.set_cons_succ, List.set_cons_zero]
              refine wpAnyH_done (by kernel_rfl) ?_ _
              have HU2 := Lib.hid (HU.out.trans (hHeld.mono HU.out.size))
              clear c1 c2 z0 HU hHeld
              go_wp2
              exact ⟨⟨k + 1, false, by go_num, rfl, HN.out, by omega, HU2.out⟩, by simp [intOf]; omega⟩
            | true =>
              by_cases hki' : k = i
              · have b1 : ((k : Int) == (i : Int)) = true := beq_iff_eq.2 (by omega)
                have b1' : (k == i) = true := beq_iff_eq.2 hki'
                have HN := Lib.hid (show true = elk Dm ps ch s (k + 1) by rw [elk_self (by rw [hki']; exact HGs.out), ← HQ.out])
                clear hgt HQ hki'
                go_upto_region 15 with fail
                refine wp_region_held_drew (S := fun w' => Below wr.heap.size wr w') (by kernel_rfl) (below_drew (Below.refl _ _)) (fun hHeld => ?_)
                refine wpAnyH_takeD (i := 0) (v := ?_) 52 rfl (by kernel_rfl) (by kernel_rfl) (by kernel_rfl) (fun _ _ _ h => h) (Or.inl ⟨by rfl, ?_⟩) (by assumption) rfl ?_
                rotate_left
                · intro w' hSw
                  have c1 := below_cell hSw c1; have c2 := below_cell hSw c2; have z0 := below_cell hSw z0
                  go_simp <;> with_reducible rfl
                simp only [List.setIfInBounds_toArray, List.set_cons_succ, List.set_cons_zero]
                refine wpAnyH_takeD (i := 1) (v := ?_) 53 rfl (by kernel_rfl) (by kernel_rfl) (by kernel_rfl) (fun _ _ _ h => h) (Or.inl ⟨by rfl, ?_⟩) (by assumption) rfl ?_
                rotate_left
                · intro w' hSw
                  have c1 := below_cell hSw c1; have c2 := below_cell hSw c2; have z0 := below_cell hSw z0
                  go_simp <;> with_reducible rfl
                simp only [List.setIfInBounds_toArray, List.set_cons_succ, List.set_cons_zero]
                refine wpAnyH_takeD (i := 2) (v := ?_) 54 rfl (by kernel_rfl) (by kernel_rfl) (by kernel_rfl) (fun _ _ _ h => h) (Or.inl ⟨by rfl, ?_⟩) (by assumption) rfl ?_
                rotate_left
                · intro w' hSw
                  have c1 := below_cell hSw c1; have c2 := below_cell hSw c2; have z0 := below_cell hSw z0
                  go_simp <;> with_reducible rfl
                simp only [List.setIfInBounds_toArray, List.set_cons_succ, List.set_cons_zero]
                refine wpAnyH_takeD (i := 3) (v := ?_) 55 rfl (by kernel_rfl) (by kernel_rfl) (by kernel_rfl) (fun _ _ _ h => h) (Or.inl ⟨by rfl, ?_⟩) (by assumption) rfl ?_
                rotate_left
                · intro w' hSw
                  have c1 := below_cell hSw c1; have c2 := below_cell hSw c2; have z0 := below_cell hSw z0
                  go_simp <;> with_reducible rfl
                simp only [List.setIfInBounds_toArray, List.set_cons_succ, List.set_cons_zero]
                refine wpAnyH_takeD (i := 4) (v := ?_) 56 rfl (by kernel_rfl) (by kernel_rfl) (by kernel_rfl) (fun _ _ _ h => h) (Or.inl ⟨by rfl, ?_⟩) (by assumption) rfl ?_
                rotate_left
                · intro w' hSw
                  have c1 := below_cell hSw c1; have c2 := below_cell hSw c2; have z0 := below_cell hSw z0
                  go_simp <;> with_reducible rfl
                simp only [List.setIfInBounds_toArray, List.set_cons_succ, List.set_cons_zero]
                refine wpAnyH_takeD (i := 5) (v := ?_) 57 rfl (by kernel_rfl) (by kernel_rfl) (by kernel_rfl) (fun _ _ _ h => h) (Or.inl ⟨by rfl, ?_⟩) (by assumption) rfl ?_
                rotate_left
                · intro w' hSw
                  have c1 := below_cell hSw c1; have c2 := below_cell hSw c2; have z0 := below_cell hSw z0
                  go_simp <;> with_reducible rfl
                simp only [List.setIfInBounds_toArray, List.set_cons_succ, List.set_cons_zero]
                refine wpAnyH_takeD (i := 6) 58 rfl (by kernel_rfl) (by kernel_rfl) (by kernel_rfl) (fun _ _ _ h => h) (Or.inr ⟨by kernel_rfl, rfl⟩) (by assumption) rfl ?_
                simp only [List.setIfInBounds_toArray, List.set_cons_succ, List.set_cons_zero]
                refine wpAnyH_takeD (i := 7) 59 rfl (by kernel_rfl) (by kernel_rfl) (by kernel_rfl) (fun _ _ _ h => h) (Or.inr ⟨by kernel_rfl, rfl⟩) (by assumption) rfl ?_
                simp only [List.setIfInBounds_toArray, List.set_cons_succ, List.set_cons_zero]
                refine wpAnyH_takeD (i := 8) 60 rfl (by kernel_rfl) (by kernel_rfl) (by kernel_rfl) (fun _ _ _ h => h) (Or.inr ⟨by kernel_rfl, rfl⟩) (by assumption) rfl ?_
                simp only [List.setIfInBounds_toArray, List.set_cons_succ, List.set_cons_zero]
                refine wpAnyH_takeD (i := 9) 61 rfl (by kernel_rfl) (by kernel_rfl) (by kernel_rfl) (fun _ _ _ h => h) (Or.inr ⟨by kernel_rfl, rfl⟩) (by assumption) rfl ?_
                simp only [List.setIfInBounds_toArray, List.set_cons_succ, List.set_cons_zero]
                refine wpAnyH_takeD (i := 10) 62 rfl (by kernel_rfl) (by kernel_rfl) (by kernel_rfl) (fun _ _ _ h => h) (Or.inr ⟨by kernel_rfl, rfl⟩) (by assumption) rfl ?_
                simp only [List.setIfInBounds_toArray, List.set_cons_succ, List.set_cons_zero]
                refine wpAnyH_takeD (i := 11) 63 rfl (by kernel_rfl) (by kernel_rfl) (by kernel_rfl) (fun _ _ _ h => h) (Or.inr ⟨by kernel_rfl, rfl⟩) (by assumption) rfl ?_
                simp only [List.setIfInBounds_toArray, List.set_cons_succ, List.set_cons_zero]
                refine wpAnyH_takeD (i := 12) 64 rfl (by kernel_rfl) (by kernel_rfl) (by kernel_rfl) (fun _ _ _ h => h) (Or.inr ⟨by kernel_rfl, rfl⟩) (by assumption) rfl ?_
                simp only [List.setIfInBounds_toArray, List.set_cons_succ, List.set_cons_zero]
                refine wpAnyH_takeD (i := 13) 65 rfl (by kernel_rfl) (by kernel_rfl) (by kernel_rfl) (fun _ _ _ h => h) (Or.inr ⟨by kernel_rfl, rfl⟩) (by assumption) rfl ?_
                simp only [List.setIfInBounds_toArray, List.set_cons_succ, List.set_cons_zero]
                refine wpAnyH_takeD (i := 14) 66 rfl (by kernel_rfl) (by kernel_rfl) (by kernel_rfl) (fun _ _ _ h => h) (Or.inr ⟨by kernel_rfl, rfl⟩) (by assumption) rfl ?_
                simp only [List.setIfInBounds_toArray, List.set_cons_succ, List.set_cons_zero]
                refine wpAnyH_takeD (i := 15) 67 rfl (by kernel_rfl) (by kernel_rfl) (by kernel_rfl) (fun _ _ _ h => h) (Or.inr ⟨by kernel_rfl, rfl⟩) (by assumption) rfl ?_
                simp only [List.setIfInBounds_toArray, List.set_cons_succ, List.set_cons_zero]
                refine wpAnyH_takeD (i := 16) 68 rfl (by kernel_rfl) (by kernel_rfl) (by kernel_rfl) (fun _ _ _ h => h) (Or.inr ⟨by kernel_rfl, rfl⟩) (by assumption) rfl ?_
                simp only [List.setIfInBounds_toArray, List.set_cons_succ, List.set_cons_zero]
                refine wpAnyH_takeD (i := 17) 69 rfl (by kernel_rfl) (by kernel_rfl) (by kernel_rfl) (fun _ _ _ h => h) (Or.inr ⟨by kernel_rfl, rfl⟩) (by assumption) rfl ?_
                simp only [List.setIfInBounds_toArray, List.set_cons_succ, List.set_cons_zero]
                refine wpAnyH_takeD (i := 18) 70 rfl (by kernel_rfl) (by kernel_rfl) (by kernel_rfl) (fun _ _ _ h => h) (Or.inr ⟨by kernel_rfl, rfl⟩) (by assumption) rfl ?_
                simp only [List.setIfInBounds_toArray, List.set_cons_succ, List.set_cons_zero]
                refine wpAnyH_takeD (i := 19) (v := ?_) 71 rfl (by kernel_rfl) (by kernel_rfl) (by kernel_rfl) (fun _ _ _ h => h) (Or.inl ⟨by rfl, ?_⟩) (by assumption) rfl ?_
                rotate_left
                · intro w' hSw
                  have c1 := below_cell hSw c1; have c2 := below_cell hSw c2; have z0 := below_cell hSw z0
                  go_simp <;> with_reducible rfl
                simp only [List.setIfInBounds_toArray, List.set_cons_succ, List.set_cons_zero]
                refine wpAnyH_takeD (i := 20) (v := ?_) 72 rfl (by kernel_rfl) (by kernel_rfl) (by kernel_rfl) (fun _ _ _ h => h) (Or.inl ⟨by rfl, ?_⟩) (by assumption) rfl ?_
                rotate_left
                · intro w' hSw
                  have c1 := below_cell hSw c1; have c2 := below_cell hSw c2; have z0 := below_cell hSw z0
                  go_simp <;> with_reducible rfl
                simp only [List.setIfInBounds_toArray, List.set_cons_succ, List.set_cons_zero]
                refine wpAnyH_takeD (i := 21) (v := ?_) 13 rfl (by kernel_rfl) (by kernel_rfl) (by kernel_rfl) (fun _ _ _ h => h) (Or.inl ⟨by rfl, ?_⟩) (by assumption) rfl ?_
                rotate_left
                · intro w' hSw
                  have c1 := below_cell hSw c1; have c2 := below_cell hSw c2; have z0 := below_cell hSw z0
                  go_simp <;> with_reducible rfl
                simp only [List.setIfInBounds_toArray, List.set_cons_succ, List.set_cons_zero]
                refine wpAnyH_done (by kernel_rfl) ?_ _
                have HU2 := Lib.hid (HU.out.trans (hHeld.mono HU.out.size))
                clear c1 c2 z0 HU hHeld
                go_wp2
                exact ⟨⟨k + 1, true, by go_num, rfl, HN.out, by omega, HU2.out⟩, by simp [intOf]; omega⟩
              · have b1 : ((k : Int) == (i : Int)) = false := beq_eq_false_iff_ne.2 (by omega)
                have b1' : (k == i) = false := beq_eq_false_iff_ne.2 hki'
                have hst : s ≠ t := fun e => hki' (nodup_at HNd.out (by rw [e]; exact hgt) HGs.out)
                obtain ⟨p, hp⟩ : ∃ p, mustB Dm ps ⟨3, s, t, 0⟩ = p := ⟨_, rfl⟩
                have HN := Lib.hid (show p = elk Dm ps ch s (k + 1) by rw [elk_other hgt hst, ← HQ.out, hp]; rfl)
                have HFw := Lib.hid (fun w' (hw : Below wr.heap.size wr w') => HFo.out Mx Bm vs s t w' HMx.out (HCm.out.below HCm.out.lt (HU.out.trans (hw.mono HU.out.size))) HLs.out (HBu.out.trans (hw.mono HBu.out.size)) (List.mem_of_getElem? HGs.out) (List.mem_of_getElem? hgt) hst)
                rw [hp] at HFw
                clear hgt HQ hki' hst hp
                go_upto_region 15 with fail
                refine wp_region_held_drew (S := fun w' => Below wr.heap.size wr w') (by kernel_rfl) (below_drew (Below.refl _ _)) (fun hHeld => ?_)
                refine wpAnyH_takeD (i := 0) (v := ?_) 52 rfl (by kernel_rfl) (by kernel_rfl) (by kernel_rfl) (fun _ _ _ h => h) (Or.inl ⟨by rfl, ?_⟩) (by assumption) rfl ?_
                rotate_left
                · intro w' hSw
                  have c1 := below_cell hSw c1; have c2 := below_cell hSw c2; have z0 := below_cell hSw z0
                  go_simp <;> with_reducible rfl
                simp only [List.setIfInBounds_toArray, List.set_cons_succ, List.set_cons_zero]
                refine wpAnyH_takeD (i := 1) (v := ?_) 53 rfl (by kernel_rfl) (by kernel_rfl) (by kernel_rfl) (fun _ _ _ h => h) (Or.inl ⟨by rfl, ?_⟩) (by assumption) rfl ?_
                rotate_left
                · intro w' hSw
                  have c1 := below_cell hSw c1; have c2 := below_cell hSw c2; have z0 := below_cell hSw z0
                  go_simp <;> with_reducible rfl
                simp only [List.setIfInBounds_toArray, List.set_cons_succ, List.set_cons_zero]
                refine wpAnyH_takeD (i := 2) (v := ?_) 54 rfl (by kernel_rfl) (by kernel_rfl) (by kernel_rfl) (fun _ _ _ h => h) (Or.inl ⟨by rfl, ?_⟩) (by assumption) rfl ?_
                rotate_left
                · intro w' hSw
                  have c1 := below_cell hSw c1; have c2 := below_cell hSw c2; have z0 := below_cell hSw z0
                  go_simp <;> with_reducible rfl
                simp only [List.setIfInBounds_toArray, List.set_cons_succ, List.set_cons_zero]
                refine wpAnyH_takeD (i := 3) (v := ?_) 55 rfl (by kernel_rfl) (by kernel_rfl) (by kernel_rfl) (fun _ _ _ h => h) (Or.inl ⟨by rfl, ?_⟩) (by assumption) rfl ?_
                rotate_left
                · intro w' hSw
                  have c1 := below_cell hSw c1; have c2 := below_cell hSw c2; have z0 := below_cell hSw z0
                  go_simp <;> with_reducible rfl
                simp only [List.setIfInBounds_toArray, List.set_cons_succ, List.set_cons_zero]
                refine wpAnyH_takeD (i := 4) (v := ?_) 56 rfl (by kernel_rfl) (by kernel_rfl) (by kernel_rfl) (fun _ _ _ h => h) (Or.inl ⟨by rfl, ?_⟩) (by assumption) rfl ?_
                rotate_left
                · intro w' hSw
                  have c1 := below_cell hSw c1; have c2 := below_cell hSw c2; have z0 := below_cell hSw z0
                  go_simp <;> with_reducible rfl
                simp only [List.setIfInBounds_toArray, List.set_cons_succ, List.set_cons_zero]
                refine wpAnyH_takeD (i := 5) (v := ?_) 57 rfl (by kernel_rfl) (by kernel_rfl) (by kernel_rfl) (fun _ _ _ h => h) (Or.inl ⟨by rfl, ?_⟩) (by assumption) rfl ?_
                rotate_left
                · intro w' hSw
                  have c1 := below_cell hSw c1; have c2 := below_cell hSw c2; have z0 := below_cell hSw z0
                  go_simp <;> with_reducible rfl
                simp only [List.setIfInBounds_toArray, List.set_cons_succ, List.set_cons_zero]
                refine wpAnyH_takeD (i := 6) (v := ?_) 58 rfl (by kernel_rfl) (by kernel_rfl) (by kernel_rfl) (fun _ _ _ h => h) (Or.inl ⟨by rfl, ?_⟩) (by assumption) rfl ?_
                rotate_left
                · intro w' hSw
                  have c1 := below_cell hSw c1; have c2 := below_cell hSw c2; have z0 := below_cell hSw z0
                  go_simp <;> with_reducible rfl
                simp only [List.setIfInBounds_toArray, List.set_cons_succ, List.set_cons_zero]
                refine wpAnyH_takeD (i := 7) (v := ?_) 59 rfl (by kernel_rfl) (by kernel_rfl) (by kernel_rfl) (fun _ _ _ h => h) (Or.inl ⟨by rfl, ?_⟩) (by assumption) rfl ?_
                rotate_left
                · intro w' hSw
                  have c1 := below_cell hSw c1; have c2 := below_cell hSw c2; have z0 := below_cell hSw z0
                  go_simp <;> with_reducible rfl
                simp only [List.setIfInBounds_toArray, List.set_cons_succ, List.set_cons_zero]
                refine wpAnyH_takeD (i := 8) (v := ?_) 60 rfl (by kernel_rfl) (by kernel_rfl) (by kernel_rfl) (fun _ _ _ h => h) (Or.inl ⟨by rfl, ?_⟩) (by assumption) rfl ?_
                rotate_left
                · intro w' hSw
                  have c1 := below_cell hSw c1; have c2 := below_cell hSw c2; have z0 := below_cell hSw z0
                  go_simp <;> with_reducible rfl
                simp only [List.setIfInBounds_toArray, List.set_cons_succ, List.set_cons_zero]
                refine wpAnyH_takeD (i := 9) (v := ?_) 61 rfl (by kernel_rfl) (by kernel_rfl) (by kernel_rfl) (fun _ _ _ h => h) (Or.inl ⟨by rfl, ?_⟩) (by assumption) rfl ?_
                rotate_left
                · intro w' hSw
                  have c1 := below_cell hSw c1; have c2 := below_cell hSw c2; have z0 := below_cell hSw z0
                  go_simp <;> with_reducible rfl
                simp only [List.setIfInBounds_toArray, List.set_cons_succ, List.set_cons_zero]
                refine wpAnyH_takeD (i := 10) (v := ?_) 62 rfl (by kernel_rfl) (by kernel_rfl) (by kernel_rfl) (fun _ _ _ h => h) (Or.inl ⟨by rfl, ?_⟩) (by assumption) rfl ?_
                rotate_left
                · intro w' hSw
                  have c1 := below_cell hSw c1; have c2 := below_cell hSw c2; have z0 := below_cell hSw z0
                  go_simp <;> with_reducible rfl
                simp only [List.setIfInBounds_toArray, List.set_cons_succ, List.set_cons_zero]
                refine wpAnyH_takeD (i := 11) (v := ?_) 63 rfl (by kernel_rfl) (by kernel_rfl) (by kernel_rfl) (fun _ _ _ h => h) (Or.inl ⟨by rfl, ?_⟩) (by assumption) rfl ?_
                rotate_left
                · intro w' hSw
                  have c1 := below_cell hSw c1; have c2 := below_cell hSw c2; have z0 := below_cell hSw z0
                  go_simp <;> with_reducible rfl
                simp only [List.setIfInBounds_toArray, List.set_cons_succ, List.set_cons_zero]
                refine wpAnyH_takeD (i := 12) (v := ?_) 64 rfl (by kernel_rfl) (by kernel_rfl) (by kernel_rfl) (fun _ _ _ h => h) (Or.inl ⟨by rfl, ?_⟩) (by assumption) rfl ?_
                rotate_left
                · intro w' hSw
                  have c1 := below_cell hSw c1; have c2 := below_cell hSw c2; have z0 := below_cell hSw z0
                  go_simp <;> with_reducible rfl
                simp only [List.setIfInBounds_toArray, List.set_cons_succ, List.set_cons_zero]
                refine wpAnyH_takeD (i := 13) (v := ?_) 65 rfl (by kernel_rfl) (by kernel_rfl) (by kernel_rfl) (fun _ _ _ h => h) (Or.inl ⟨by rfl, ?_⟩) (by assumption) rfl ?_
                rotate_left
                · intro w' hSw
                  have c1 := below_cell hSw c1; have c2 := below_cell hSw c2; have z0 := below_cell hSw z0
                  go_simp <;> with_reducible rfl
                simp only [List.setIfInBounds_toArray, List.set_cons_succ, List.set_cons_zero]
                refine wpAnyH_takeD (i := 14) (v := ?_) 66 rfl (by kernel_rfl) (by kernel_rfl) (by kernel_rfl) (fun _ _ _ h => h) (Or.inl ⟨by rfl, ?_⟩) (by assumption) rfl ?_
                rotate_left
                · intro w' hSw
                  have c1 := below_cell hSw c1; have c2 := below_cell hSw c2; have z0 := below_cell hSw z0
                  go_simp <;> with_reducible rfl
                simp only [List.setIfInBounds_toArray, List.set_cons_succ, List.set_cons_zero]
                refine wpAnyH_takeD (i := 15) (v := ?_) 67 rfl (by kernel_rfl) (by kernel_rfl) (by kernel_rfl) (fun _ _ _ h => h) (Or.inl ⟨by rfl, ?_⟩) (by assumption) rfl ?_
                rotate_left
                · intro w' hSw
                  have c1 := below_cell hSw c1; have c2 := below_cell hSw c2; have z0 := below_cell hSw z0
                  go_simp <;> with_reducible rfl
                simp only [List.setIfInBounds_toArray, List.set_cons_succ, List.set_cons_zero]
                refine wpAnyH_takeD (i := 16) (v := ?_) 68 rfl (by kernel_rfl) (by kernel_rfl) (by kernel_rfl) (fun _ _ _ h => h) (Or.inl ⟨by rfl, ?_⟩) (by assumption) rfl ?_
                rotate_left
                · intro w' hSw
                  have c1 := below_cell hSw c1; have c2 := below_cell hSw c2; have z0 := below_cell hSw z0
                  go_simp <;> with_reducible rfl
                simp only [List.setIfInBounds_toArray, List.set_cons_succ, List.set_cons_zero]
                refine wpAnyH_takeD (i := 17) (v := ?_) 69 rfl (by kernel_rfl) (by kernel_rfl) (by kernel_rfl) (fun _ _ _ h => h) (Or.inl ⟨by rfl, ?_⟩) (by assumption) rfl ?_
                rotate_left
                · intro w' hSw
                  have c1 := below_cell hSw c1; have c2 := below_cell hSw c2; have z0 := below_cell hSw z0
                  go_simp <;> with_reducible rfl
                simp only [List.setIfInBounds_toArray, List.set_cons_succ, List.set_cons_zero]
                refine wpAnyH_ready (rs := [18]) (by kernel_rfl) (by simp) ?_
                refine AllReadyH.cons (o := _) rfl (fun K hK => ?_) AllReadyH.nil
                go_simp
                go_at_call 66
                refine (HFw.out _ hHeld).mono ?_
                rintro e w41 ⟨rfl, hb41⟩
                have HV41 := Lib.hid (hHeld.trans (hb41.mono hHeld.size))
                clear hb41
                refine hK.out _ _ HV41.out (fun hHeld2 => ?_)
                clear hK K
                refine wpAnyH_takeD (i := 19) (v := ?_) 71 rfl (by kernel_rfl) (by kernel_rfl) (by kernel_rfl) (fun _ _ _ h => h) (Or.inl ⟨by rfl, ?_⟩) (by assumption) rfl ?_
                rotate_left
                · intro w' hSw
                  have c1 := below_cell hSw c1; have c2 := below_cell hSw c2; have z0 := below_cell hSw z0
                  go_simp <;> with_reducible rfl
                simp only [List.setIfInBounds_toArray, List.set_cons_succ, List.set_cons_zero]
                refine wpAnyH_takeD (i := 20) (v := ?_) 72 rfl (by kernel_rfl) (by kernel_rfl) (by kernel_rfl) (fun _ _ _ h => h) (Or.inl ⟨by rfl, ?_⟩) (by assumption) rfl ?_
                rotate_left
                · intro w' hSw
                  have c1 := below_cell hSw c1; have c2 := below_cell hSw c2; have z0 := below_cell hSw z0
                  go_simp <;> with_reducible rfl
                simp only [List.setIfInBounds_toArray, List.set_cons_succ, List.set_cons_zero]
                refine wpAnyH_takeD (i := 21) (v := ?_) 13 rfl (by kernel_rfl) (by kernel_rfl) (by kernel_rfl) (fun _ _ _ h => h) (Or.inl ⟨by rfl, ?_⟩) (by assumption) rfl ?_
                rotate_left
                · intro w' hSw
                  have c1 := below_cell hSw c1; have c2 := below_cell hSw c2; have z0 := below_cell hSw z0
                  go_simp <;> with_reducible rfl
                simp only [List.setIfInBounds_toArray, List.set_cons_succ, List.set_cons_zero]
                refine wpAnyH_done (by kernel_rfl) ?_ _
                have HU2 := Lib.hid (HU.out.trans (HV41.out.mono HU.out.size))
                clear c1 c2 z0 HU hHeld
                go_wp2
                exact ⟨⟨k + 1, p, by go_num, rfl, HN.out, by omega, HU2.out⟩, by simp [intOf]; omega⟩
          · have hkl : k = ch.length := by omega
            subst hkl
            have hwm : IntKind.i64.wrap ((mn : Int) + 1) = ((mn + 1 : Nat) : Int) := by rw [IntWalk.i64_in _ (by omega)]; omega
            cases q with
            | false =>
              have HE2 := Lib.hid (HNo.out HQ.out.symm)
              go_wp2
              exact ⟨⟨i + 1, el, mn, by go_num, rfl, rfl, by omega, HE2.out, HU.out⟩, by simp [intOf]; omega⟩
            | true =>
              have HE2 := Lib.hid (HYe.out HQ.out.symm)
              go_wp2
              exact ⟨⟨i + 1, (i : Int), mn + 1, by go_num, rfl, rfl, by omega, HE2.out, HU.out⟩, by simp [intOf]; omega⟩
      · have hil : i = ch.length := by omega
        subst hil
        obtain ⟨he1, he2⟩ := HEnd.out el mn HE.out
        have hmn := HE.out.2.1
        have HBw := Lib.hid (HB2.out.trans (HU.out.mono HB2.out.size))
        have HVw := Lib.hid (HV2.out.trans (HU.out.mono HV2.out.size))
        have hwl : IntKind.i64.wrap ((ch.length : Int) + 1) = ((ch.length + 1 : Nat) : Int) := by rw [IntWalk.i64_in _ (by omega)]; omega
        by_cases q1 : ch.length < 2
        · have n1 : (ch.length : Int) < 2 := by omega
          have n2 : decide ((ch.length : Int) < 2) = true := decide_eq_true n1
          obtain ⟨hpe, how⟩ := he1 (.inl q1)
          subst hpe
          have HOw := Lib.hid how
          clear he1 he2 how HE q1
          have HU1 := Lib.hid (Below.refl wo.heap.size wo)
          go_wp2
          go_loopw [16, 17] (fun v16 ti wr => ∃ i : Nat, ti = .int .i64 i ∧ i ≤ ch.length ∧ Hid (wr.ownsRow wo.heap.size 34 3 v16 i (sharesV fi (ch.length) (ch.take i))) ∧ Hid (Below wo.heap.size wo wr)) (fun _ ti _ => ch.length - (intOf ti).toNat)
          case atStart => exact ⟨0, rfl, by omega, World.ownsRow_nil _ _ _ _, HU1.out⟩
          case round =>
            clear HU1
            obtain ⟨i, rfl, hi, HO, HU⟩ := hrel
            obtain ⟨A7, c7, e7, _⟩ := own_shape HO.out
            subst e7
            by_cases hlt : i < ch.length
            · have hii : (i : Int) < (ch.length : Int) := by omega
              have hi0 : (0 : Int) ≤ (i : Int) := by omega
              obtain ⟨b0, o0, rfl, _, hce⟩ := HCh.out (by omega)
              obtain ⟨s, hget⟩ : ∃ s, ch[i]? = some s := ⟨_, List.getElem?_eq_getElem hlt⟩
              have HC1 := Lib.hid (below_cell HVw.out (hce i s hget))
              have HTk := Lib.hid (sharesV_take (fi := fi) (parts := (ch.length)) hget)
              have HOs := Lib.hid (HOw.out i s hget)
              clear hce hget
              obtain ⟨ow, how, howf⟩ : ∃ ow : Int, (ow = if s = fi then 2 else 1) ∧ (ow = 1 ∨ ow = 2) := ⟨_, rfl, by split <;> simp⟩
              have HSr := Lib.hid (show shareR fi (ch.length) s = ratioF ow (((ch.length) : Nat) : Int) by unfold shareR; rw [how])
              have HRc := Lib.hid (fun w' => HRa.out ow w' howf)
              obtain ⟨rr, hrr⟩ : ∃ rr, ratioF ow (((ch.length) : Nat) : Int) = rr := ⟨_, rfl⟩
              rw [hrr] at HRc HSr
              unfold shareV at HTk
              rw [HSr.out] at HTk
              obtain ⟨rn, rd, re⟩ := rr
              unfold rrV at HRc
              simp only at HRc HTk
              clear hrr HSr
              have HSh := Lib.hid (fun (W : World) => Cel.new W 32 #[.int .i64 0, .int .i64 0])
              by_cases hq : (i : Int) = (-1)
              · have b1 : ((i : Int) == (-1)) = true := beq_iff_eq.2 hq
                have how2 : ow = 2 := by rw [how, if_pos (HOs.out.1 hq)]
                subst how2
                clear hq how howf
                go_wp2_with fail
                refine (HRc.out _).mono ?_
                rintro e w3 ⟨rfl, hb3⟩
                have HU3 := Lib.hid (HU.out.trans (hb3.mono HU.out.size))
                have HO3 := Lib.hid (own_below HO.out hb3)
                clear hb3 b1
                have l0 := (HSh.out w3).cell 0 _ rfl
                have l1 := (HSh.out w3).cell 1 _ rfl
                have l2 := (HSh.out w3).frozen 0
                have l3 := (HSh.out w3).frozen 1
                go_upto_region 31 with fail
                clear l0 l1 l2 l3
                have HX := Lib.hid (Cel.new w3 32 #[.int .i64 rn, .int .i64 rd])
                have HU4 := Lib.hid (HU3.out.alloc HU3.out.size (.cells #[.int .i64 rn, .int .i64 rd] 32))
                have HO4 := Lib.hid (HO3.out.alloc (.cells #[.int .i64 rn, .int .i64 rd] 32))
                have HLb := Lib.hid (fun g (e : (Value.slice A7 i c7).ownBlock = some g) => own_lt HO3.out e)
                obtain ⟨Br, hBr⟩ : ∃ Br, w3.heap.size = Br := ⟨_, rfl⟩
                rw [hBr] at HX HLb
                generalize w3.alloc (.cells #[.int .i64 rn, .int .i64 rd] 32) = w4 at *
                rw [hBr]
                clear hBr HU3 HO3 HO HU
                have HSd : (Below wo.heap.size wo w4.drew ∧ w4.drew.cell? ⟨Br, 0, none⟩ = some (.int .i64 rn) ∧ w4.drew.cell? ⟨Br, 1, none⟩ = some (.int .i64 rd)) := ⟨below_drew HU4.out, HX.out.cell 0 _ rfl, HX.out.cell 1 _ rfl⟩
                refine wp_region_held_drew (S := fun w' => (Below wo.heap.size wo w' ∧ w'.cell? ⟨Br, 0, none⟩ = some (.int .i64 rn) ∧ w'.cell? ⟨Br, 1, none⟩ = some (.int .i64 rd))) (by kernel_rfl) HSd (fun hHeld => ?_)
                clear HSd
                have HX5 : Hid (Cel w4.drew Br 32 #[.int .i64 rn, .int .i64 rd]) := HX
                have HU5 := Lib.hid (below_drew HU4.out)
                have HO5 : Hid (w4.drew.ownsRow wo.heap.size 34 3 (.slice A7 i c7) i (sharesV fi (ch.length) (ch.take i))) := HO4
                clear HX HU4 HO4
                generalize w4.drew = W5 at *
                refine wpAnyH_takeD (i := 0) (v := ?_) 103 rfl (by kernel_rfl) (by kernel_rfl) (by kernel_rfl) (fun _ _ _ h => h) (Or.inl ⟨by rfl, ?_⟩) (by assumption) rfl ?_
                rotate_left
                · intro w' hSw
                  have c1 := below_cell hSw.1 HC1.out; have r0 := hSw.2.1; have r1 := hSw.2.2
                  go_simp <;> with_reducible rfl
                simp only [List.setIfInBounds_toArray, List.set_cons_succ, List.set_cons_zero]
                refine wpAnyH_takeD (i := 1) (v := ?_) 104 rfl (by kernel_rfl) (by kernel_rfl) (by kernel_rfl) (fun _ _ _ h => h) (Or.inl ⟨by rfl, ?_⟩) (by assumption) rfl ?_
                rotate_left
                · intro w' hSw
                  have c1 := below_cell hSw.1 HC1.out; have r0 := hSw.2.1; have r1 := hSw.2.2
                  go_simp <;> with_reducible rfl
                simp only [List.setIfInBounds_toArray, List.set_cons_succ, List.set_cons_zero]
                refine wpAnyH_takeD (i := 2) (v := ?_) 105 rfl (by kernel_rfl) (by kernel_rfl) (by kernel_rfl) (fun _ _ _ h => h) (Or.inl ⟨by rfl, ?_⟩) (by assumption) rfl ?_
                rotate_left
                · intro w' hSw
                  have c1 := below_cell hSw.1 HC1.out; have r0 := hSw.2.1; have r1 := hSw.2.2
                  go_simp <;> with_reducible rfl
                simp only [List.setIfInBounds_toArray, List.set_cons_succ, List.set_cons_zero]
                refine wpAnyH_takeD (i := 3) (v := ?_) 106 rfl (by kernel_rfl) (by kernel_rfl) (by kernel_rfl) (fun _ _ _ h => h) (Or.inl ⟨by rfl, ?_⟩) (by assumption) rfl ?_
                rotate_left
                · intro w' hSw
                  have c1 := below_cell hSw.1 HC1.out; have r0 := hSw.2.1; have r1 := hSw.2.2
                  go_simp <;> with_reducible rfl
                simp only [List.setIfInBounds_toArray, List.set_cons_succ, List.set_cons_zero]
                refine wpAnyH_takeD (i := 4) (v := ?_) 107 rfl (by kernel_rfl) (by kernel_rfl) (by kernel_rfl) (fun _ _ _ h => h) (Or.inl ⟨by rfl, ?_⟩) (by assumption) rfl ?_
                rotate_left
                · intro w' hSw
                  have c1 := below_cell hSw.1 HC1.out; have r0 := hSw.2.1; have r1 := hSw.2.2
                  go_simp <;> with_reducible rfl
                simp only [List.setIfInBounds_toArray, List.set_cons_succ, List.set_cons_zero]
                refine wpAnyH_takeD (i := 5) (v := ?_) 108 rfl (by kernel_rfl) (by kernel_rfl) (by kernel_rfl) (fun _ _ _ h => h) (Or.inl ⟨by rfl, ?_⟩) (by assumption) rfl ?_
                rotate_left
                · intro w' hSw
                  have c1 := below_cell hSw.1 HC1.out; have r0 := hSw.2.1; have r1 := hSw.2.2
                  go_simp <;> with_reducible rfl
                simp only [List.setIfInBounds_toArray, List.set_cons_succ, List.set_cons_zero]
                refine wpAnyH_takeD (i := 6) (v := ?_) 109 rfl (by kernel_rfl) (by kernel_rfl) (by kernel_rfl) (fun _ _ _ h => h) (Or.inl ⟨by rfl, ?_⟩) (by assumption) rfl ?_
                rotate_left
                · intro w' hSw
                  have c1 := below_cell hSw.1 HC1.out; have r0 := hSw.2.1; have r1 := hSw.2.2
                  go_simp <;> with_reducible rfl
                simp only [List.setIfInBounds_toArray, List.set_cons_succ, List.set_cons_zero]
                refine wpAnyH_ready (rs := [7]) (by kernel_rfl) (by simp) ?_
                refine AllReadyH.cons (o := _) rfl (fun K hK => ?_) AllReadyH.nil
                go_simp
                refine hK.out _ _ ⟨HU5.out.alloc HU5.out.size (.cells #[.string s, .int .i64 rn, .int .i64 rd] 34), (HX5.out.alloc (.cells #[.string s, .int .i64 rn, .int .i64 rd] 34)).cell 0 _ rfl, (HX5.out.alloc (.cells #[.string s, .int .i64 rn, .int .i64 rd] 34)).cell 1 _ rfl⟩ (fun hHeld2 => ?_)
                clear hK K
                refine wpAnyH_ready (rs := [8]) (by kernel_rfl) (by simp) ?_
                refine AllReadyH.cons (o := _) rfl (fun K hK => ?_) AllReadyH.nil
                have HSx := Lib.hid (Sl.new (s := 3) W5 34 1 1 #[.string s, .int .i64 rn, .int .i64 rd] rfl (Nat.le_refl _) (by decide))
                refine stepShare (.tmp 103) (.tmp 110) rfl rfl (by rfl) (by rfl) (HO5.out.alloc (.cells #[.string s, .int .i64 rn, .int .i64 rd] 34)) HSx.out (by simp [Value.oneCell']) (N := i + 1) (by simp; omega) (by omega) hHeld2.1.size ?_
                intro A9 c9 w9 hap
                have HU9 := Lib.hid (below_of_own hap.grown (HO5.out.alloc (.cells #[.string s, .int .i64 rn, .int .i64 rd] 34)) hHeld2.1 (Nat.le_refl _))
                have HX9 := Lib.hid ((HX5.out.alloc (.cells #[.string s, .int .i64 rn, .int .i64 rd] 34)).kept hap.grown (fun e => by have := HLb.out _ e.symm; omega))
                have HO9 := Lib.hid hap.own
                clear hap
                go_simp
                refine hK.out _ _ ⟨HU9.out, HX9.out.cell 0 _ rfl, HX9.out.cell 1 _ rfl⟩ (fun hHeld3 => ?_)
                clear hK K
                refine wpAnyH_takeD (i := 9) (v := ?_) 16 rfl (by kernel_rfl) (by kernel_rfl) (by kernel_rfl) (fun _ _ _ h => h) (Or.inl ⟨by rfl, ?_⟩) (by assumption) rfl ?_
                rotate_left
                · intro w' hSw
                  have c1 := below_cell hSw.1 HC1.out; have r0 := hSw.2.1; have r1 := hSw.2.2
                  go_simp <;> with_reducible rfl
                simp only [List.setIfInBounds_toArray, List.set_cons_succ, List.set_cons_zero]
                refine wpAnyH_done (by kernel_rfl) ?_ _
                clear hHeld hHeld2 hHeld3
                go_wp2
                exact ⟨⟨i + 1, by go_num, by omega, by rw [HTk.out]; exact HO9.out, HU9.out⟩, by simp [intOf]; omega⟩
              · have b1 : ((i : Int) == (-1)) = false := beq_eq_false_iff_ne.2 hq
                have how1 : ow = 1 := by rw [how, if_neg (fun z => hq (HOs.out.2 z))]
                subst how1
                clear hq how howf
                go_wp2_with fail
                refine (HRc.out _).mono ?_
                rintro e w3 ⟨rfl, hb3⟩
                have HU3 := Lib.hid (HU.out.trans (hb3.mono HU.out.size))
                have HO3 := Lib.hid (own_below HO.out hb3)
                clear hb3 b1
                have l0 := (HSh.out w3).cell 0 _ rfl
                have l1 := (HSh.out w3).cell 1 _ rfl
                have l2 := (HSh.out w3).frozen 0
                have l3 := (HSh.out w3).frozen 1
                go_upto_region 31 with fail
                clear l0 l1 l2 l3
                have HX := Lib.hid (Cel.new w3 32 #[.int .i64 rn, .int .i64 rd])
                have HU4 := Lib.hid (HU3.out.alloc HU3.out.size (.cells #[.int .i64 rn, .int .i64 rd] 32))
                have HO4 := Lib.hid (HO3.out.alloc (.cells #[.int .i64 rn, .int .i64 rd] 32))
                have HLb := Lib.hid (fun g (e : (Value.slice A7 i c7).ownBlock = some g) => own_lt HO3.out e)
                obtain ⟨Br, hBr⟩ : ∃ Br, w3.heap.size = Br := ⟨_, rfl⟩
                rw [hBr] at HX HLb
                generalize w3.alloc (.cells #[.int .i64 rn, .int .i64 rd] 32) = w4 at *
                rw [hBr]
                clear hBr HU3 HO3 HO HU
                have HSd : (Below wo.heap.size wo w4.drew ∧ w4.drew.cell? ⟨Br, 0, none⟩ = some (.int .i64 rn) ∧ w4.drew.cell? ⟨Br, 1, none⟩ = some (.int .i64 rd)) := ⟨below_drew HU4.out, HX.out.cell 0 _ rfl, HX.out.cell 1 _ rfl⟩
                refine wp_region_held_drew (S := fun w' => (Below wo.heap.size wo w' ∧ w'.cell? ⟨Br, 0, none⟩ = some (.int .i64 rn) ∧ w'.cell? ⟨Br, 1, none⟩ = some (.int .i64 rd))) (by kernel_rfl) HSd (fun hHeld => ?_)
                clear HSd
                have HX5 : Hid (Cel w4.drew Br 32 #[.int .i64 rn, .int .i64 rd]) := HX
                have HU5 := Lib.hid (below_drew HU4.out)
                have HO5 : Hid (w4.drew.ownsRow wo.heap.size 34 3 (.slice A7 i c7) i (sharesV fi (ch.length) (ch.take i))) := HO4
                clear HX HU4 HO4
                generalize w4.drew = W5 at *
                refine wpAnyH_takeD (i := 0) (v := ?_) 103 rfl (by kernel_rfl) (by kernel_rfl) (by kernel_rfl) (fun _ _ _ h => h) (Or.inl ⟨by rfl, ?_⟩) (by assumption) rfl ?_
                rotate_left
                · intro w' hSw
                  have c1 := below_cell hSw.1 HC1.out; have r0 := hSw.2.1; have r1 := hSw.2.2
                  go_simp <;> with_reducible rfl
                simp only [List.setIfInBounds_toArray, List.set_cons_succ, List.set_cons_zero]
                refine wpAnyH_takeD (i := 1) (v := ?_) 104 rfl (by kernel_rfl) (by kernel_rfl) (by kernel_rfl) (fun _ _ _ h => h) (Or.inl ⟨by rfl, ?_⟩) (by assumption) rfl ?_
                rotate_left
                · intro w' hSw
                  have c1 := below_cell hSw.1 HC1.out; have r0 := hSw.2.1; have r1 := hSw.2.2
                  go_simp <;> with_reducible rfl
                simp only [List.setIfInBounds_toArray, List.set_cons_succ, List.set_cons_zero]
                refine wpAnyH_takeD (i := 2) (v := ?_) 105 rfl (by kernel_rfl) (by kernel_rfl) (by kernel_rfl) (fun _ _ _ h => h) (Or.inl ⟨by rfl, ?_⟩) (by assumption) rfl ?_
                rotate_left
                · intro w' hSw
                  have c1 := below_cell hSw.1 HC1.out; have r0 := hSw.2.1; have r1 := hSw.2.2
                  go_simp <;> with_reducible rfl
                simp only [List.setIfInBounds_toArray, List.set_cons_succ, List.set_cons_zero]
                refine wpAnyH_takeD (i := 3) (v := ?_) 106 rfl (by kernel_rfl) (by kernel_rfl) (by kernel_rfl) (fun _ _ _ h => h) (Or.inl ⟨by rfl, ?_⟩) (by assumption) rfl ?_
                rotate_left
                · intro w' hSw
                  have c1 := below_cell hSw.1 HC1.out; have r0 := hSw.2.1; have r1 := hSw.2.2
                  go_simp <;> with_reducible rfl
                simp only [List.setIfInBounds_toArray, List.set_cons_succ, List.set_cons_zero]
                refine wpAnyH_takeD (i := 4) (v := ?_) 107 rfl (by kernel_rfl) (by kernel_rfl) (by kernel_rfl) (fun _ _ _ h => h) (Or.inl ⟨by rfl, ?_⟩) (by assumption) rfl ?_
                rotate_left
                · intro w' hSw
                  have c1 := below_cell hSw.1 HC1.out; have r0 := hSw.2.1; have r1 := hSw.2.2
                  go_simp <;> with_reducible rfl
                simp only [List.setIfInBounds_toArray, List.set_cons_succ, List.set_cons_zero]
                refine wpAnyH_takeD (i := 5) (v := ?_) 108 rfl (by kernel_rfl) (by kernel_rfl) (by kernel_rfl) (fun _ _ _ h => h) (Or.inl ⟨by rfl, ?_⟩) (by assumption) rfl ?_
                rotate_left
                · intro w' hSw
                  have c1 := below_cell hSw.1 HC1.out; have r0 := hSw.2.1; have r1 := hSw.2.2
                  go_simp <;> with_reducible rfl
                simp only [List.setIfInBounds_toArray, List.set_cons_succ, List.set_cons_zero]
                refine wpAnyH_takeD (i := 6) (v := ?_) 109 rfl (by kernel_rfl) (by kernel_rfl) (by kernel_rfl) (fun _ _ _ h => h) (Or.inl ⟨by rfl, ?_⟩) (by assumption) rfl ?_
                rotate_left
                · intro w' hSw
                  have c1 := below_cell hSw.1 HC1.out; have r0 := hSw.2.1; have r1 := hSw.2.2
                  go_simp <;> with_reducible rfl
                simp only [List.setIfInBounds_toArray, List.set_cons_succ, List.set_cons_zero]
                refine wpAnyH_ready (rs := [7]) (by kernel_rfl) (by simp) ?_
                refine AllReadyH.cons (o := _) rfl (fun K hK => ?_) AllReadyH.nil
                go_simp
                refine hK.out _ _ ⟨HU5.out.alloc HU5.out.size (.cells #[.string s, .int .i64 rn, .int .i64 rd] 34), (HX5.out.alloc (.cells #[.string s, .int .i64 rn, .int .i64 rd] 34)).cell 0 _ rfl, (HX5.out.alloc (.cells #[.string s, .int .i64 rn, .int .i64 rd] 34)).cell 1 _ rfl⟩ (fun hHeld2 => ?_)
                clear hK K
                refine wpAnyH_ready (rs := [8]) (by kernel_rfl) (by simp) ?_
                refine AllReadyH.cons (o := _) rfl (fun K hK => ?_) AllReadyH.nil
                have HSx := Lib.hid (Sl.new (s := 3) W5 34 1 1 #[.string s, .int .i64 rn, .int .i64 rd] rfl (Nat.le_refl _) (by decide))
                refine stepShare (.tmp 103) (.tmp 110) rfl rfl (by rfl) (by rfl) (HO5.out.alloc (.cells #[.string s, .int .i64 rn, .int .i64 rd] 34)) HSx.out (by simp [Value.oneCell']) (N := i + 1) (by simp; omega) (by omega) hHeld2.1.size ?_
                intro A9 c9 w9 hap
                have HU9 := Lib.hid (below_of_own hap.grown (HO5.out.alloc (.cells #[.string s, .int .i64 rn, .int .i64 rd] 34)) hHeld2.1 (Nat.le_refl _))
                have HX9 := Lib.hid ((HX5.out.alloc (.cells #[.string s, .int .i64 rn, .int .i64 rd] 34)).kept hap.grown (fun e => by have := HLb.out _ e.symm; omega))
                have HO9 := Lib.hid hap.own
                clear hap
                go_simp
                refine hK.out _ _ ⟨HU9.out, HX9.out.cell 0 _ rfl, HX9.out.cell 1 _ rfl⟩ (fun hHeld3 => ?_)
                clear hK K
                refine wpAnyH_takeD (i := 9) (v := ?_) 16 rfl (by kernel_rfl) (by kernel_rfl) (by kernel_rfl) (fun _ _ _ h => h) (Or.inl ⟨by rfl, ?_⟩) (by assumption) rfl ?_
                rotate_left
                · intro w' hSw
                  have c1 := below_cell hSw.1 HC1.out; have r0 := hSw.2.1; have r1 := hSw.2.2
                  go_simp <;> with_reducible rfl
                simp only [List.setIfInBounds_toArray, List.set_cons_succ, List.set_cons_zero]
                refine wpAnyH_done (by kernel_rfl) ?_ _
                clear hHeld hHeld2 hHeld3
                go_wp2
                exact ⟨⟨i + 1, by go_num, by omega, by rw [HTk.out]; exact HO9.out, HU9.out⟩, by simp [intOf]; omega⟩
            · have HBz := Lib.hid (HBw.out.trans (HU.out.mono HBw.out.size))
              have hil : i = ch.length := by omega
              subst hil
              have HSz := Lib.hid (Sl.of_own HO.out)
              rw [List.take_of_length_le (Nat.le_refl _)] at HSz
              go_wp2
              go_ret2
              exact ⟨HBz.out, _, rfl, HSz.out⟩
        · have n1 : ¬ (ch.length : Int) < 2 := by omega
          have n2 : decide ((ch.length : Int) < 2) = false := decide_eq_false n1
          by_cases q2 : mn = 1
          · have m1 : ((mn : Int) != 1) = false := by rw [q2]; rfl
            have m2 : ((mn : Int) == 1) = true := by rw [q2]; rfl
            have m3 : (mn == 1) = true := by rw [q2]; rfl
            obtain ⟨hpe, how⟩ := he2 (fun z => z.elim q1 (fun y => y q2))
            subst hpe
            have HOw := Lib.hid how
            clear he1 he2 how HE q1 q2
            have HU1 := Lib.hid (Below.refl wo.heap.size wo)
            go_wp2
            go_loopw [16, 17] (fun v16 ti wr => ∃ i : Nat, ti = .int .i64 i ∧ i ≤ ch.length ∧ Hid (wr.ownsRow wo.heap.size 34 3 v16 i (sharesV fi (ch.length + 1) (ch.take i))) ∧ Hid (Below wo.heap.size wo wr)) (fun _ ti _ => ch.length - (intOf ti).toNat)
            case atStart => exact ⟨0, rfl, by omega, World.ownsRow_nil _ _ _ _, HU1.out⟩
            case round =>
              clear HU1
              obtain ⟨i, rfl, hi, HO, HU⟩ := hrel
              obtain ⟨A7, c7, e7, _⟩ := own_shape HO.out
              subst e7
              by_cases hlt : i < ch.length
              · have hii : (i : Int) < (ch.length : Int) := by omega
                have hi0 : (0 : Int) ≤ (i : Int) := by omega
                obtain ⟨b0, o0, rfl, _, hce⟩ := HCh.out (by omega)
                obtain ⟨s, hget⟩ : ∃ s, ch[i]? = some s := ⟨_, List.getElem?_eq_getElem hlt⟩
                have HC1 := Lib.hid (below_cell HVw.out (hce i s hget))
                have HTk := Lib.hid (sharesV_take (fi := fi) (parts := (ch.length + 1)) hget)
                have HOs := Lib.hid (HOw.out i s hget)
                clear hce hget
                obtain ⟨ow, how, howf⟩ : ∃ ow : Int, (ow = if s = fi then 2 else 1) ∧ (ow = 1 ∨ ow = 2) := ⟨_, rfl, by split <;> simp⟩
                have HSr := Lib.hid (show shareR fi (ch.length + 1) s = ratioF ow (((ch.length + 1) : Nat) : Int) by unfold shareR; rw [how])
                have HRc := Lib.hid (fun w' => HRa.out ow w' howf)
                obtain ⟨rr, hrr⟩ : ∃ rr, ratioF ow (((ch.length + 1) : Nat) : Int) = rr := ⟨_, rfl⟩
                rw [hrr] at HRc HSr
                unfold shareV at HTk
                rw [HSr.out] at HTk
                obtain ⟨rn, rd, re⟩ := rr
                unfold rrV at HRc
                simp only at HRc HTk
                clear hrr HSr
                have HSh := Lib.hid (fun (W : World) => Cel.new W 32 #[.int .i64 0, .int .i64 0])
                by_cases hq : (i : Int) = el
                · have b1 : ((i : Int) == el) = true := beq_iff_eq.2 hq
                  have how2 : ow = 2 := by rw [how, if_pos (HOs.out.1 hq)]
                  subst how2
                  clear hq how howf
                  go_wp2_with fail
                  refine (HRc.out _).mono ?_
                  rintro e w3 ⟨rfl, hb3⟩
                  have HU3 := Lib.hid (HU.out.trans (hb3.mono HU.out.size))
                  have HO3 := Lib.hid (own_below HO.out hb3)
                  clear hb3 b1
                  have l0 := (HSh.out w3).cell 0 _ rfl
                  have l1 := (HSh.out w3).cell 1 _ rfl
                  have l2 := (HSh.out w3).frozen 0
                  have l3 := (HSh.out w3).frozen 1
                  go_upto_region 31 with fail
                  clear l0 l1 l2 l3
                  have HX := Lib.hid (Cel.new w3 32 #[.int .i64 rn, .int .i64 rd])
                  have HU4 := Lib.hid (HU3.out.alloc HU3.out.size (.cells #[.int .i64 rn, .int .i64 rd] 32))
                  have HO4 := Lib.hid (HO3.out.alloc (.cells #[.int .i64 rn, .int .i64 rd] 32))
                  have HLb := Lib.hid (fun g (e : (Value.slice A7 i c7).ownBlock = some g) => own_lt HO3.out e)
                  obtain ⟨Br, hBr⟩ : ∃ Br, w3.heap.size = Br := ⟨_, rfl⟩
                  rw [hBr] at HX HLb
                  generalize w3.alloc (.cells #[.int .i64 rn, .int .i64 rd] 32) = w4 at *
                  rw [hBr]
                  clear hBr HU3 HO3 HO HU
                  have HSd : (Below wo.heap.size wo w4.drew ∧ w4.drew.cell? ⟨Br, 0, none⟩ = some (.int .i64 rn) ∧ w4.drew.cell? ⟨Br, 1, none⟩ = some (.int .i64 rd)) := ⟨below_drew HU4.out, HX.out.cell 0 _ rfl, HX.out.cell 1 _ rfl⟩
                  refine wp_region_held_drew (S := fun w' => (Below wo.heap.size wo w' ∧ w'.cell? ⟨Br, 0, none⟩ = some (.int .i64 rn) ∧ w'.cell? ⟨Br, 1, none⟩ = some (.int .i64 rd))) (by kernel_rfl) HSd (fun hHeld => ?_)
                  clear HSd
                  have HX5 : Hid (Cel w4.drew Br 32 #[.int .i64 rn, .int .i64 rd]) := HX
                  have HU5 := Lib.hid (below_drew HU4.out)
                  have HO5 : Hid (w4.drew.ownsRow wo.heap.size 34 3 (.slice A7 i c7) i (sharesV fi (ch.length + 1) (ch.take i))) := HO4
                  clear HX HU4 HO4
                  generalize w4.drew = W5 at *
                  refine wpAnyH_takeD (i := 0) (v := ?_) 103 rfl (by kernel_rfl) (by kernel_rfl) (by kernel_rfl) (fun _ _ _ h => h) (Or.inl ⟨by rfl, ?_⟩) (by assumption) rfl ?_
                  rotate_left
                  · intro w' hSw
                    have c1 := below_cell hSw.1 HC1.out; have r0 := hSw.2.1; have r1 := hSw.2.2
                    go_simp <;> with_reducible rfl
                  simp only [List.setIfInBounds_toArray, List.set_cons_succ, List.set_cons_zero]
                  refine wpAnyH_takeD (i := 1) (v := ?_) 104 rfl (by kernel_rfl) (by kernel_rfl) (by kernel_rfl) (fun _ _ _ h => h) (Or.inl ⟨by rfl, ?_⟩) (by assumption) rfl ?_
                  rotate_left
                  · intro w' hSw
                    have c1 := below_cell hSw.1 HC1.out; have r0 := hSw.2.1; have r1 := hSw.2.2
                    go_simp <;> with_reducible rfl
                  simp only [List.setIfInBounds_toArray, List.set_cons_succ, List.set_cons_zero]
                  refine wpAnyH_takeD (i := 2) (v := ?_) 105 rfl (by kernel_rfl) (by kernel_rfl) (by kernel_rfl) (fun _ _ _ h => h) (Or.inl ⟨by rfl, ?_⟩) (by assumption) rfl ?_
                  rotate_left
                  · intro w' hSw
                    have c1 := below_cell hSw.1 HC1.out; have r0 := hSw.2.1; have r1 := hSw.2.2
                    go_simp <;> with_reducible rfl
                  simp only [List.setIfInBounds_toArray, List.set_cons_succ, List.set_cons_zero]
                  refine wpAnyH_takeD (i := 3) (v := ?_) 106 rfl (by kernel_rfl) (by kernel_rfl) (by kernel_rfl) (fun _ _ _ h => h) (Or.inl ⟨by rfl, ?_⟩) (by assumption) rfl ?_
                  rotate_left
                  · intro w' hSw
                    have c1 := below_cell hSw.1 HC1.out; have r0 := hSw.2.1; have r1 := hSw.2.2
                    go_simp <;> with_reducible rfl
                  simp only [List.setIfInBounds_toArray, List.set_cons_succ, List.set_cons_zero]
                  refine wpAnyH_takeD (i := 4) (v := ?_) 107 rfl (by kernel_rfl) (by kernel_rfl) (by kernel_rfl) (fun _ _ _ h => h) (Or.inl ⟨by rfl, ?_⟩) (by assumption) rfl ?_
                  rotate_left
                  · intro w' hSw
                    have c1 := below_cell hSw.1 HC1.out; have r0 := hSw.2.1; have r1 := hSw.2.2
                    go_simp <;> with_reducible rfl
                  simp only [List.setIfInBounds_toArray, List.set_cons_succ, List.set_cons_zero]
                  refine wpAnyH_takeD (i := 5) (v := ?_) 108 rfl (by kernel_rfl) (by kernel_rfl) (by kernel_rfl) (fun _ _ _ h => h) (Or.inl ⟨by rfl, ?_⟩) (by assumption) rfl ?_
                  rotate_left
                  · intro w' hSw
                    have c1 := below_cell hSw.1 HC1.out; have r0 := hSw.2.1; have r1 := hSw.2.2
                    go_simp <;> with_reducible rfl
                  simp only [List.setIfInBounds_toArray, List.set_cons_succ, List.set_cons_zero]
                  refine wpAnyH_takeD (i := 6) (v := ?_) 109 rfl (by kernel_rfl) (by kernel_rfl) (by kernel_rfl) (fun _ _ _ h => h) (Or.inl ⟨by rfl, ?_⟩) (by assumption) rfl ?_
                  rotate_left
                  · intro w' hSw
                    have c1 := below_cell hSw.1 HC1.out; have r0 := hSw.2.1; have r1 := hSw.2.2
                    go_simp <;> with_reducible rfl
                  simp only [List.setIfInBounds_toArray, List.set_cons_succ, List.set_cons_zero]
                  refine wpAnyH_ready (rs := [7]) (by kernel_rfl) (by simp) ?_
                  refine AllReadyH.cons (o := _) rfl (fun K hK => ?_) AllReadyH.nil
                  go_simp
                  refine hK.out _ _ ⟨HU5.out.alloc HU5.out.size (.cells #[.string s, .int .i64 rn, .int .i64 rd] 34), (HX5.out.alloc (.cells #[.string s, .int .i64 rn, .int .i64 rd] 34)).cell 0 _ rfl, (HX5.out.alloc (.cells #[.string s, .int .i64 rn, .int .i64 rd] 34)).cell 1 _ rfl⟩ (fun hHeld2 => ?_)
                  clear hK K
                  refine wpAnyH_ready (rs := [8]) (by kernel_rfl) (by simp) ?_
                  refine AllReadyH.cons (o := _) rfl (fun K hK => ?_) AllReadyH.nil
                  have HSx := Lib.hid (Sl.new (s := 3) W5 34 1 1 #[.string s, .int .i64 rn, .int .i64 rd] rfl (Nat.le_refl _) (by decide))
                  refine stepShare (.tmp 103) (.tmp 110) rfl rfl (by rfl) (by rfl) (HO5.out.alloc (.cells #[.string s, .int .i64 rn, .int .i64 rd] 34)) HSx.out (by simp [Value.oneCell']) (N := i + 1) (by simp; omega) (by omega) hHeld2.1.size ?_
                  intro A9 c9 w9 hap
                  have HU9 := Lib.hid (below_of_own hap.grown (HO5.out.alloc (.cells #[.string s, .int .i64 rn, .int .i64 rd] 34)) hHeld2.1 (Nat.le_refl _))
                  have HX9 := Lib.hid ((HX5.out.alloc (.cells #[.string s, .int .i64 rn, .int .i64 rd] 34)).kept hap.grown (fun e => by have := HLb.out _ e.symm; omega))
                  have HO9 := Lib.hid hap.own
                  clear hap
                  go_simp
                  refine hK.out _ _ ⟨HU9.out, HX9.out.cell 0 _ rfl, HX9.out.cell 1 _ rfl⟩ (fun hHeld3 => ?_)
                  clear hK K
                  refine wpAnyH_takeD (i := 9) (v := ?_) 16 rfl (by kernel_rfl) (by kernel_rfl) (by kernel_rfl) (fun _ _ _ h => h) (Or.inl ⟨by rfl, ?_⟩) (by assumption) rfl ?_
                  rotate_left
                  · intro w' hSw
                    have c1 := below_cell hSw.1 HC1.out; have r0 := hSw.2.1; have r1 := hSw.2.2
                    go_simp <;> with_reducible rfl
                  simp only [List.setIfInBounds_toArray, List.set_cons_succ, List.set_cons_zero]
                  refine wpAnyH_done (by kernel_rfl) ?_ _
                  clear hHeld hHeld2 hHeld3
                  go_wp2
                  exact ⟨⟨i + 1, by go_num, by omega, by rw [HTk.out]; exact HO9.out, HU9.out⟩, by simp [intOf]; omega⟩
                · have b1 : ((i : Int) == el) = false := beq_eq_false_iff_ne.2 hq
                  have how1 : ow = 1 := by rw [how, if_neg (fun z => hq (HOs.out.2 z))]
                  subst how1
                  clear hq how howf
                  go_wp2_with fail
                  refine (HRc.out _).mono ?_
                  rintro e w3 ⟨rfl, hb3⟩
                  have HU3 := Lib.hid (HU.out.trans (hb3.mono HU.out.size))
                  have HO3 := Lib.hid (own_below HO.out hb3)
                  clear hb3 b1
                  have l0 := (HSh.out w3).cell 0 _ rfl
                  have l1 := (HSh.out w3).cell 1 _ rfl
                  have l2 := (HSh.out w3).frozen 0
                  have l3 := (HSh.out w3).frozen 1
                  go_upto_region 31 with fail
                  clear l0 l1 l2 l3
                  have HX := Lib.hid (Cel.new w3 32 #[.int .i64 rn, .int .i64 rd])
                  have HU4 := Lib.hid (HU3.out.alloc HU3.out.size (.cells #[.int .i64 rn, .int .i64 rd] 32))
                  have HO4 := Lib.hid (HO3.out.alloc (.cells #[.int .i64 rn, .int .i64 rd] 32))
                  have HLb := Lib.hid (fun g (e : (Value.slice A7 i c7).ownBlock = some g) => own_lt HO3.out e)
                  obtain ⟨Br, hBr⟩ : ∃ Br, w3.heap.size = Br := ⟨_, rfl⟩
                  rw [hBr] at HX HLb
                  generalize w3.alloc (.cells #[.int .i64 rn, .int .i64 rd] 32) = w4 at *
                  rw [hBr]
                  clear hBr HU3 HO3 HO HU
                  have HSd : (Below wo.heap.size wo w4.drew ∧ w4.drew.cell? ⟨Br, 0, none⟩ = some (.int .i64 rn) ∧ w4.drew.cell? ⟨Br, 1, none⟩ = some (.int .i64 rd)) := ⟨below_drew HU4.out, HX.out.cell 0 _ rfl, HX.out.cell 1 _ rfl⟩
                  refine wp_region_held_drew (S := fun w' => (Below wo.heap.size wo w' ∧ w'.cell? ⟨Br, 0, none⟩ = some (.int .i64 rn) ∧ w'.cell? ⟨Br, 1, none⟩ = some (.int .i64 rd))) (by kernel_rfl) HSd (fun hHeld => ?_)
                  clear HSd
                  have HX5 : Hid (Cel w4.drew Br 32 #[.int .i64 rn, .int .i64 rd]) := HX
                  have HU5 := Lib.hid (below_drew HU4.out)
                  have HO5 : Hid (w4.drew.ownsRow wo.heap.size 34 3 (.slice A7 i c7) i (sharesV fi (ch.length + 1) (ch.take i))) := HO4
                  clear HX HU4 HO4
                  generalize w4.drew = W5 at *
                  refine wpAnyH_takeD (i := 0) (v := ?_) 103 rfl (by kernel_rfl) (by kernel_rfl) (by kernel_rfl) (fun _ _ _ h => h) (Or.inl ⟨by rfl, ?_⟩) (by assumption) rfl ?_
                  rotate_left
                  · intro w' hSw
                    have c1 := below_cell hSw.1 HC1.out; have r0 := hSw.2.1; have r1 := hSw.2.2
                    go_simp <;> with_reducible rfl
                  simp only [List.setIfInBounds_toArray, List.set_cons_succ, List.set_cons_zero]
                  refine wpAnyH_takeD (i := 1) (v := ?_) 104 rfl (by kernel_rfl) (by kernel_rfl) (by kernel_rfl) (fun _ _ _ h => h) (Or.inl ⟨by rfl, ?_⟩) (by assumption) rfl ?_
                  rotate_left
                  · intro w' hSw
                    have c1 := below_cell hSw.1 HC1.out; have r0 := hSw.2.1; have r1 := hSw.2.2
                    go_simp <;> with_reducible rfl
                  simp only [List.setIfInBounds_toArray, List.set_cons_succ, List.set_cons_zero]
                  refine wpAnyH_takeD (i := 2) (v := ?_) 105 rfl (by kernel_rfl) (by kernel_rfl) (by kernel_rfl) (fun _ _ _ h => h) (Or.inl ⟨by rfl, ?_⟩) (by assumption) rfl ?_
                  rotate_left
                  · intro w' hSw
                    have c1 := below_cell hSw.1 HC1.out; have r0 := hSw.2.1; have r1 := hSw.2.2
                    go_simp <;> with_reducible rfl
                  simp only [List.setIfInBounds_toArray, List.set_cons_succ, List.set_cons_zero]
                  refine wpAnyH_takeD (i := 3) (v := ?_) 106 rfl (by kernel_rfl) (by kernel_rfl) (by kernel_rfl) (fun _ _ _ h => h) (Or.inl ⟨by rfl, ?_⟩) (by assumption) rfl ?_
                  rotate_left
                  · intro w' hSw
                    have c1 := below_cell hSw.1 HC1.out; have r0 := hSw.2.1; have r1 := hSw.2.2
                    go_simp <;> with_reducible rfl
                  simp only [List.setIfInBounds_toArray, List.set_cons_succ, List.set_cons_zero]
                  refine wpAnyH_takeD (i := 4) (v := ?_) 107 rfl (by kernel_rfl) (by kernel_rfl) (by kernel_rfl) (fun _ _ _ h => h) (Or.inl ⟨by rfl, ?_⟩) (by assumption) rfl ?_
                  rotate_left
                  · intro w' hSw
                    have c1 := below_cell hSw.1 HC1.out; have r0 := hSw.2.1; have r1 := hSw.2.2
                    go_simp <;> with_reducible rfl
                  simp only [List.setIfInBounds_toArray, List.set_cons_succ, List.set_cons_zero]
                  refine wpAnyH_takeD (i := 5) (v := ?_) 108 rfl (by kernel_rfl) (by kernel_rfl) (by kernel_rfl) (fun _ _ _ h => h) (Or.inl ⟨by rfl, ?_⟩) (by assumption) rfl ?_
                  rotate_left
                  · intro w' hSw
                    have c1 := below_cell hSw.1 HC1.out; have r0 := hSw.2.1; have r1 := hSw.2.2
                    go_simp <;> with_reducible rfl
                  simp only [List.setIfInBounds_toArray, List.set_cons_succ, List.set_cons_zero]
                  refine wpAnyH_takeD (i := 6) (v := ?_) 109 rfl (by kernel_rfl) (by kernel_rfl) (by kernel_rfl) (fun _ _ _ h => h) (Or.inl ⟨by rfl, ?_⟩) (by assumption) rfl ?_
                  rotate_left
                  · intro w' hSw
                    have c1 := below_cell hSw.1 HC1.out; have r0 := hSw.2.1; have r1 := hSw.2.2
                    go_simp <;> with_reducible rfl
                  simp only [List.setIfInBounds_toArray, List.set_cons_succ, List.set_cons_zero]
                  refine wpAnyH_ready (rs := [7]) (by kernel_rfl) (by simp) ?_
                  refine AllReadyH.cons (o := _) rfl (fun K hK => ?_) AllReadyH.nil
                  go_simp
                  refine hK.out _ _ ⟨HU5.out.alloc HU5.out.size (.cells #[.string s, .int .i64 rn, .int .i64 rd] 34), (HX5.out.alloc (.cells #[.string s, .int .i64 rn, .int .i64 rd] 34)).cell 0 _ rfl, (HX5.out.alloc (.cells #[.string s, .int .i64 rn, .int .i64 rd] 34)).cell 1 _ rfl⟩ (fun hHeld2 => ?_)
                  clear hK K
                  refine wpAnyH_ready (rs := [8]) (by kernel_rfl) (by simp) ?_
                  refine AllReadyH.cons (o := _) rfl (fun K hK => ?_) AllReadyH.nil
                  have HSx := Lib.hid (Sl.new (s := 3) W5 34 1 1 #[.string s, .int .i64 rn, .int .i64 rd] rfl (Nat.le_refl _) (by decide))
                  refine stepShare (.tmp 103) (.tmp 110) rfl rfl (by rfl) (by rfl) (HO5.out.alloc (.cells #[.string s, .int .i64 rn, .int .i64 rd] 34)) HSx.out (by simp [Value.oneCell']) (N := i + 1) (by simp; omega) (by omega) hHeld2.1.size ?_
                  intro A9 c9 w9 hap
                  have HU9 := Lib.hid (below_of_own hap.grown (HO5.out.alloc (.cells #[.string s, .int .i64 rn, .int .i64 rd] 34)) hHeld2.1 (Nat.le_refl _))
                  have HX9 := Lib.hid ((HX5.out.alloc (.cells #[.string s, .int .i64 rn, .int .i64 rd] 34)).kept hap.grown (fun e => by have := HLb.out _ e.symm; omega))
                  have HO9 := Lib.hid hap.own
                  clear hap
                  go_simp
                  refine hK.out _ _ ⟨HU9.out, HX9.out.cell 0 _ rfl, HX9.out.cell 1 _ rfl⟩ (fun hHeld3 => ?_)
                  clear hK K
                  refine wpAnyH_takeD (i := 9) (v := ?_) 16 rfl (by kernel_rfl) (by kernel_rfl) (by kernel_rfl) (fun _ _ _ h => h) (Or.inl ⟨by rfl, ?_⟩) (by assumption) rfl ?_
                  rotate_left
                  · intro w' hSw
                    have c1 := below_cell hSw.1 HC1.out; have r0 := hSw.2.1; have r1 := hSw.2.2
                    go_simp <;> with_reducible rfl
                  simp only [List.setIfInBounds_toArray, List.set_cons_succ, List.set_cons_zero]
                  refine wpAnyH_done (by kernel_rfl) ?_ _
                  clear hHeld hHeld2 hHeld3
                  go_wp2
                  exact ⟨⟨i + 1, by go_num, by omega, by rw [HTk.out]; exact HO9.out, HU9.out⟩, by simp [intOf]; omega⟩
              · have HBz := Lib.hid (HBw.out.trans (HU.out.mono HBw.out.size))
                have hil : i = ch.length := by omega
                subst hil
                have HSz := Lib.hid (Sl.of_own HO.out)
                rw [List.take_of_length_le (Nat.le_refl _)] at HSz
                go_wp2
                go_ret2
                exact ⟨HBz.out, _, rfl, HSz.out⟩
          · have m2 : ((mn : Int) == 1) = false := beq_eq_false_iff_ne.2 (by omega)
            have m1 : ((mn : Int) != 1) = true := by unfold bne; rw [m2]; rfl
            have m3 : (mn == 1) = false := beq_eq_false_iff_ne.2 q2
            obtain ⟨hpe, how⟩ := he1 (.inr q2)
            subst hpe
            have HOw := Lib.hid how
            clear he1 he2 how HE q1 q2
            have HU1 := Lib.hid (Below.refl wo.heap.size wo)
            go_wp2
            go_loopw [16, 17] (fun v16 ti wr => ∃ i : Nat, ti = .int .i64 i ∧ i ≤ ch.length ∧ Hid (wr.ownsRow wo.heap.size 34 3 v16 i (sharesV fi (ch.length) (ch.take i))) ∧ Hid (Below wo.heap.size wo wr)) (fun _ ti _ => ch.length - (intOf ti).toNat)
            case atStart => exact ⟨0, rfl, by omega, World.ownsRow_nil _ _ _ _, HU1.out⟩
            case round =>
              clear HU1
              obtain ⟨i, rfl, hi, HO, HU⟩ := hrel
              obtain ⟨A7, c7, e7, _⟩ := own_shape HO.out
              subst e7
              by_cases hlt : i < ch.length
              · have hii : (i : Int) < (ch.length : Int) := by omega
                have hi0 : (0 : Int) ≤ (i : Int) := by omega
                obtain ⟨b0, o0, rfl, _, hce⟩ := HCh.out (by omega)
                obtain ⟨s, hget⟩ : ∃ s, ch[i]? = some s := ⟨_, List.getElem?_eq_getElem hlt⟩
                have HC1 := Lib.hid (below_cell HVw.out (hce i s hget))
                have HTk := Lib.hid (sharesV_take (fi := fi) (parts := (ch.length)) hget)
                have HOs := Lib.hid (HOw.out i s hget)
                clear hce hget
                obtain ⟨ow, how, howf⟩ : ∃ ow : Int, (ow = if s = fi then 2 else 1) ∧ (ow = 1 ∨ ow = 2) := ⟨_, rfl, by split <;> simp⟩
                have HSr := Lib.hid (show shareR fi (ch.length) s = ratioF ow (((ch.length) : Nat) : Int) by unfold shareR; rw [how])
                have HRc := Lib.hid (fun w' => HRa.out ow w' howf)
                obtain ⟨rr, hrr⟩ : ∃ rr, ratioF ow (((ch.length) : Nat) : Int) = rr := ⟨_, rfl⟩
                rw [hrr] at HRc HSr
                unfold shareV at HTk
                rw [HSr.out] at HTk
                obtain ⟨rn, rd, re⟩ := rr
                unfold rrV at HRc
                simp only at HRc HTk
                clear hrr HSr
                have HSh := Lib.hid (fun (W : World) => Cel.new W 32 #[.int .i64 0, .int .i64 0])
                by_cases hq : (i : Int) = (-1)
                · have b1 : ((i : Int) == (-1)) = true := beq_iff_eq.2 hq
                  have how2 : ow = 2 := by rw [how, if_pos (HOs.out.1 hq)]
                  subst how2
                  clear hq how howf
                  go_wp2_with fail
                  refine (HRc.out _).mono ?_
                  rintro e w3 ⟨rfl, hb3⟩
                  have HU3 := Lib.hid (HU.out.trans (hb3.mono HU.out.size))
                  have HO3 := Lib.hid (own_below HO.out hb3)
                  clear hb3 b1
                  have l0 := (HSh.out w3).cell 0 _ rfl
                  have l1 := (HSh.out w3).cell 1 _ rfl
                  have l2 := (HSh.out w3).frozen 0
                  have l3 := (HSh.out w3).frozen 1
                  go_upto_region 31 with fail
                  clear l0 l1 l2 l3
                  have HX := Lib.hid (Cel.new w3 32 #[.int .i64 rn, .int .i64 rd])
                  have HU4 := Lib.hid (HU3.out.alloc HU3.out.size (.cells #[.int .i64 rn, .int .i64 rd] 32))
                  have HO4 := Lib.hid (HO3.out.alloc (.cells #[.int .i64 rn, .int .i64 rd] 32))
                  have HLb := Lib.hid (fun g (e : (Value.slice A7 i c7).ownBlock = some g) => own_lt HO3.out e)
                  obtain ⟨Br, hBr⟩ : ∃ Br, w3.heap.size = Br := ⟨_, rfl⟩
                  rw [hBr] at HX HLb
                  generalize w3.alloc (.cells #[.int .i64 rn, .int .i64 rd] 32) = w4 at *
                  rw [hBr]
                  clear hBr HU3 HO3 HO HU
                  have HSd : (Below wo.heap.size wo w4.drew ∧ w4.drew.cell? ⟨Br, 0, none⟩ = some (.int .i64 rn) ∧ w4.drew.cell? ⟨Br, 1, none⟩ = some (.int .i64 rd)) := ⟨below_drew HU4.out, HX.out.cell 0 _ rfl, HX.out.cell 1 _ rfl⟩
                  refine wp_region_held_drew (S := fun w' => (Below wo.heap.size wo w' ∧ w'.cell? ⟨Br, 0, none⟩ = some (.int .i64 rn) ∧ w'.cell? ⟨Br, 1, none⟩ = some (.int .i64 rd))) (by kernel_rfl) HSd (fun hHeld => ?_)
                  clear HSd
                  have HX5 : Hid (Cel w4.drew Br 32 #[.int .i64 rn, .int .i64 rd]) := HX
                  have HU5 := Lib.hid (below_drew HU4.out)
                  have HO5 : Hid (w4.drew.ownsRow wo.heap.size 34 3 (.slice A7 i c7) i (sharesV fi (ch.length) (ch.take i))) := HO4
                  clear HX HU4 HO4
                  generalize w4.drew = W5 at *
                  refine wpAnyH_takeD (i := 0) (v := ?_) 103 rfl (by kernel_rfl) (by kernel_rfl) (by kernel_rfl) (fun _ _ _ h => h) (Or.inl ⟨by rfl, ?_⟩) (by assumption) rfl ?_
                  rotate_left
                  · intro w' hSw
                    have c1 := below_cell hSw.1 HC1.out; have r0 := hSw.2.1; have r1 := hSw.2.2
                    go_simp <;> with_reducible rfl
                  simp only [List.setIfInBounds_toArray, List.set_cons_succ, List.set_cons_zero]
                  refine wpAnyH_takeD (i := 1) (v := ?_) 104 rfl (by kernel_rfl) (by kernel_rfl) (by kernel_rfl) (fun _ _ _ h => h) (Or.inl ⟨by rfl, ?_⟩) (by assumption) rfl ?_
                  rotate_left
                  · intro w' hSw
                    have c1 := below_cell hSw.1 HC1.out; have r0 := hSw.2.1; have r1 := hSw.2.2
                    go_simp <;> with_reducible rfl
                  simp only [List.setIfInBounds_toArray, List.set_cons_succ, List.set_cons_zero]
                  refine wpAnyH_takeD (i := 2) (v := ?_) 105 rfl (by kernel_rfl) (by kernel_rfl) (by kernel_rfl) (fun _ _ _ h => h) (Or.inl ⟨by rfl, ?_⟩) (by assumption) rfl ?_
                  rotate_left
                  · intro w' hSw
                    have c1 := below_cell hSw.1 HC1.out; have r0 := hSw.2.1; have r1 := hSw.2.2
                    go_simp <;> with_reducible rfl
                  simp only [List.setIfInBounds_toArray, List.set_cons_succ, List.set_cons_zero]
                  refine wpAnyH_takeD (i := 3) (v := ?_) 106 rfl (by kernel_rfl) (by kernel_rfl) (by kernel_rfl) (fun _ _ _ h => h) (Or.inl ⟨by rfl, ?_⟩) (by assumption) rfl ?_
                  rotate_left
                  · intro w' hSw
                    have c1 := below_cell hSw.1 HC1.out; have r0 := hSw.2.1; have r1 := hSw.2.2
                    go_simp <;> with_reducible rfl
                  simp only [List.setIfInBounds_toArray, List.set_cons_succ, List.set_cons_zero]
                  refine wpAnyH_takeD (i := 4) (v := ?_) 107 rfl (by kernel_rfl) (by kernel_rfl) (by kernel_rfl) (fun _ _ _ h => h) (Or.inl ⟨by rfl, ?_⟩) (by assumption) rfl ?_
                  rotate_left
                  · intro w' hSw
                    have c1 := below_cell hSw.1 HC1.out; have r0 := hSw.2.1; have r1 := hSw.2.2
                    go_simp <;> with_reducible rfl
                  simp only [List.setIfInBounds_toArray, List.set_cons_succ, List.set_cons_zero]
                  refine wpAnyH_takeD (i := 5) (v := ?_) 108 rfl (by kernel_rfl) (by kernel_rfl) (by kernel_rfl) (fun _ _ _ h => h) (Or.inl ⟨by rfl, ?_⟩) (by assumption) rfl ?_
                  rotate_left
                  · intro w' hSw
                    have c1 := below_cell hSw.1 HC1.out; have r0 := hSw.2.1; have r1 := hSw.2.2
                    go_simp <;> with_reducible rfl
                  simp only [List.setIfInBounds_toArray, List.set_cons_succ, List.set_cons_zero]
                  refine wpAnyH_takeD (i := 6) (v := ?_) 109 rfl (by kernel_rfl) (by kernel_rfl) (by kernel_rfl) (fun _ _ _ h => h) (Or.inl ⟨by rfl, ?_⟩) (by assumption) rfl ?_
                  rotate_left
                  · intro w' hSw
                    have c1 := below_cell hSw.1 HC1.out; have r0 := hSw.2.1; have r1 := hSw.2.2
                    go_simp <;> with_reducible rfl
                  simp only [List.setIfInBounds_toArray, List.set_cons_succ, List.set_cons_zero]
                  refine wpAnyH_ready (rs := [7]) (by kernel_rfl) (by simp) ?_
                  refine AllReadyH.cons (o := _) rfl (fun K hK => ?_) AllReadyH.nil
                  go_simp
                  refine hK.out _ _ ⟨HU5.out.alloc HU5.out.size (.cells #[.string s, .int .i64 rn, .int .i64 rd] 34), (HX5.out.alloc (.cells #[.string s, .int .i64 rn, .int .i64 rd] 34)).cell 0 _ rfl, (HX5.out.alloc (.cells #[.string s, .int .i64 rn, .int .i64 rd] 34)).cell 1 _ rfl⟩ (fun hHeld2 => ?_)
                  clear hK K
                  refine wpAnyH_ready (rs := [8]) (by kernel_rfl) (by simp) ?_
                  refine AllReadyH.cons (o := _) rfl (fun K hK => ?_) AllReadyH.nil
                  have HSx := Lib.hid (Sl.new (s := 3) W5 34 1 1 #[.string s, .int .i64 rn, .int .i64 rd] rfl (Nat.le_refl _) (by decide))
                  refine stepShare (.tmp 103) (.tmp 110) rfl rfl (by rfl) (by rfl) (HO5.out.alloc (.cells #[.string s, .int .i64 rn, .int .i64 rd] 34)) HSx.out (by simp [Value.oneCell']) (N := i + 1) (by simp; omega) (by omega) hHeld2.1.size ?_
                  intro A9 c9 w9 hap
                  have HU9 := Lib.hid (below_of_own hap.grown (HO5.out.alloc (.cells #[.string s, .int .i64 rn, .int .i64 rd] 34)) hHeld2.1 (Nat.le_refl _))
                  have HX9 := Lib.hid ((HX5.out.alloc (.cells #[.string s, .int .i64 rn, .int .i64 rd] 34)).kept hap.grown (fun e => by have := HLb.out _ e.symm; omega))
                  have HO9 := Lib.hid hap.own
                  clear hap
                  go_simp
                  refine hK.out _ _ ⟨HU9.out, HX9.out.cell 0 _ rfl, HX9.out.cell 1 _ rfl⟩ (fun hHeld3 => ?_)
                  clear hK K
                  refine wpAnyH_takeD (i := 9) (v := ?_) 16 rfl (by kernel_rfl) (by kernel_rfl) (by kernel_rfl) (fun _ _ _ h => h) (Or.inl ⟨by rfl, ?_⟩) (by assumption) rfl ?_
                  rotate_left
                  · intro w' hSw
                    have c1 := below_cell hSw.1 HC1.out; have r0 := hSw.2.1; have r1 := hSw.2.2
                    go_simp <;> with_reducible rfl
                  simp only [List.setIfInBounds_toArray, List.set_cons_succ, List.set_cons_zero]
                  refine wpAnyH_done (by kernel_rfl) ?_ _
                  clear hHeld hHeld2 hHeld3
                  go_wp2
                  exact ⟨⟨i + 1, by go_num, by omega, by rw [HTk.out]; exact HO9.out, HU9.out⟩, by simp [intOf]; omega⟩
                · have b1 : ((i : Int) == (-1)) = false := beq_eq_false_iff_ne.2 hq
                  have how1 : ow = 1 := by rw [how, if_neg (fun z => hq (HOs.out.2 z))]
                  subst how1
                  clear hq how howf
                  go_wp2_with fail
                  refine (HRc.out _).mono ?_
                  rintro e w3 ⟨rfl, hb3⟩
                  have HU3 := Lib.hid (HU.out.trans (hb3.mono HU.out.size))
                  have HO3 := Lib.hid (own_below HO.out hb3)
                  clear hb3 b1
                  have l0 := (HSh.out w3).cell 0 _ rfl
                  have l1 := (HSh.out w3).cell 1 _ rfl
                  have l2 := (HSh.out w3).frozen 0
                  have l3 := (HSh.out w3).frozen 1
                  go_upto_region 31 with fail
                  clear l0 l1 l2 l3
                  have HX := Lib.hid (Cel.new w3 32 #[.int .i64 rn, .int .i64 rd])
                  have HU4 := Lib.hid (HU3.out.alloc HU3.out.size (.cells #[.int .i64 rn, .int .i64 rd] 32))
                  have HO4 := Lib.hid (HO3.out.alloc (.cells #[.int .i64 rn, .int .i64 rd] 32))
                  have HLb := Lib.hid (fun g (e : (Value.slice A7 i c7).ownBlock = some g) => own_lt HO3.out e)
                  obtain ⟨Br, hBr⟩ : ∃ Br, w3.heap.size = Br := ⟨_, rfl⟩
                  rw [hBr] at HX HLb
                  generalize w3.alloc (.cells #[.int .i64 rn, .int .i64 rd] 32) = w4 at *
                  rw [hBr]
                  clear hBr HU3 HO3 HO HU
                  have HSd : (Below wo.heap.size wo w4.drew ∧ w4.drew.cell? ⟨Br, 0, none⟩ = some (.int .i64 rn) ∧ w4.drew.cell? ⟨Br, 1, none⟩ = some (.int .i64 rd)) := ⟨below_drew HU4.out, HX.out.cell 0 _ rfl, HX.out.cell 1 _ rfl⟩
                  refine wp_region_held_drew (S := fun w' => (Below wo.heap.size wo w' ∧ w'.cell? ⟨Br, 0, none⟩ = some (.int .i64 rn) ∧ w'.cell? ⟨Br, 1, none⟩ = some (.int .i64 rd))) (by kernel_rfl) HSd (fun hHeld => ?_)
                  clear HSd
                  have HX5 : Hid (Cel w4.drew Br 32 #[.int .i64 rn, .int .i64 rd]) := HX
                  have HU5 := Lib.hid (below_drew HU4.out)
                  have HO5 : Hid (w4.drew.ownsRow wo.heap.size 34 3 (.slice A7 i c7) i (sharesV fi (ch.length) (ch.take i))) := HO4
                  clear HX HU4 HO4
                  generalize w4.drew = W5 at *
                  refine wpAnyH_takeD (i := 0) (v := ?_) 103 rfl (by kernel_rfl) (by kernel_rfl) (by kernel_rfl) (fun _ _ _ h => h) (Or.inl ⟨by rfl, ?_⟩) (by assumption) rfl ?_
                  rotate_left
                  · intro w' hSw
                    have c1 := below_cell hSw.1 HC1.out; have r0 := hSw.2.1; have r1 := hSw.2.2
                    go_simp <;> with_reducible rfl
                  simp only [List.setIfInBounds_toArray, List.set_cons_succ, List.set_cons_zero]
                  refine wpAnyH_takeD (i := 1) (v := ?_) 104 rfl (by kernel_rfl) (by kernel_rfl) (by kernel_rfl) (fun _ _ _ h => h) (Or.inl ⟨by rfl, ?_⟩) (by assumption) rfl ?_
                  rotate_left
                  · intro w' hSw
                    have c1 := below_cell hSw.1 HC1.out; have r0 := hSw.2.1; have r1 := hSw.2.2
                    go_simp <;> with_reducible rfl
                  simp only [List.setIfInBounds_toArray, List.set_cons_succ, List.set_cons_zero]
                  refine wpAnyH_takeD (i := 2) (v := ?_) 105 rfl (by kernel_rfl) (by kernel_rfl) (by kernel_rfl) (fun _ _ _ h => h) (Or.inl ⟨by rfl, ?_⟩) (by assumption) rfl ?_
                  rotate_left
                  · intro w' hSw
                    have c1 := below_cell hSw.1 HC1.out; have r0 := hSw.2.1; have r1 := hSw.2.2
                    go_simp <;> with_reducible rfl
                  simp only [List.setIfInBounds_toArray, List.set_cons_succ, List.set_cons_zero]
                  refine wpAnyH_takeD (i := 3) (v := ?_) 106 rfl (by kernel_rfl) (by kernel_rfl) (by kernel_rfl) (fun _ _ _ h => h) (Or.inl ⟨by rfl, ?_⟩) (by assumption) rfl ?_
                  rotate_left
                  · intro w' hSw
                    have c1 := below_cell hSw.1 HC1.out; have r0 := hSw.2.1; have r1 := hSw.2.2
                    go_simp <;> with_reducible rfl
                  simp only [List.setIfInBounds_toArray, List.set_cons_succ, List.set_cons_zero]
                  refine wpAnyH_takeD (i := 4) (v := ?_) 107 rfl (by kernel_rfl) (by kernel_rfl) (by kernel_rfl) (fun _ _ _ h => h) (Or.inl ⟨by rfl, ?_⟩) (by assumption) rfl ?_
                  rotate_left
                  · intro w' hSw
                    have c1 := below_cell hSw.1 HC1.out; have r0 := hSw.2.1; have r1 := hSw.2.2
                    go_simp <;> with_reducible rfl
                  simp only [List.setIfInBounds_toArray, List.set_cons_succ, List.set_cons_zero]
                  refine wpAnyH_takeD (i := 5) (v := ?_) 108 rfl (by kernel_rfl) (by kernel_rfl) (by kernel_rfl) (fun _ _ _ h => h) (Or.inl ⟨by rfl, ?_⟩) (by assumption) rfl ?_
                  rotate_left
                  · intro w' hSw
                    have c1 := below_cell hSw.1 HC1.out; have r0 := hSw.2.1; have r1 := hSw.2.2
                    go_simp <;> with_reducible rfl
                  simp only [List.setIfInBounds_toArray, List.set_cons_succ, List.set_cons_zero]
                  refine wpAnyH_takeD (i := 6) (v := ?_) 109 rfl (by kernel_rfl) (by kernel_rfl) (by kernel_rfl) (fun _ _ _ h => h) (Or.inl ⟨by rfl, ?_⟩) (by assumption) rfl ?_
                  rotate_left
                  · intro w' hSw
                    have c1 := below_cell hSw.1 HC1.out; have r0 := hSw.2.1; have r1 := hSw.2.2
                    go_simp <;> with_reducible rfl
                  simp only [List.setIfInBounds_toArray, List.set_cons_succ, List.set_cons_zero]
                  refine wpAnyH_ready (rs := [7]) (by kernel_rfl) (by simp) ?_
                  refine AllReadyH.cons (o := _) rfl (fun K hK => ?_) AllReadyH.nil
                  go_simp
                  refine hK.out _ _ ⟨HU5.out.alloc HU5.out.size (.cells #[.string s, .int .i64 rn, .int .i64 rd] 34), (HX5.out.alloc (.cells #[.string s, .int .i64 rn, .int .i64 rd] 34)).cell 0 _ rfl, (HX5.out.alloc (.cells #[.string s, .int .i64 rn, .int .i64 rd] 34)).cell 1 _ rfl⟩ (fun hHeld2 => ?_)
                  clear hK K
                  refine wpAnyH_ready (rs := [8]) (by kernel_rfl) (by simp) ?_
                  refine AllReadyH.cons (o := _) rfl (fun K hK => ?_) AllReadyH.nil
                  have HSx := Lib.hid (Sl.new (s := 3) W5 34 1 1 #[.string s, .int .i64 rn, .int .i64 rd] rfl (Nat.le_refl _) (by decide))
                  refine stepShare (.tmp 103) (.tmp 110) rfl rfl (by rfl) (by rfl) (HO5.out.alloc (.cells #[.string s, .int .i64 rn, .int .i64 rd] 34)) HSx.out (by simp [Value.oneCell']) (N := i + 1) (by simp; omega) (by omega) hHeld2.1.size ?_
                  intro A9 c9 w9 hap
                  have HU9 := Lib.hid (below_of_own hap.grown (HO5.out.alloc (.cells #[.string s, .int .i64 rn, .int .i64 rd] 34)) hHeld2.1 (Nat.le_refl _))
                  have HX9 := Lib.hid ((HX5.out.alloc (.cells #[.string s, .int .i64 rn, .int .i64 rd] 34)).kept hap.grown (fun e => by have := HLb.out _ e.symm; omega))
                  have HO9 := Lib.hid hap.own
                  clear hap
                  go_simp
                  refine hK.out _ _ ⟨HU9.out, HX9.out.cell 0 _ rfl, HX9.out.cell 1 _ rfl⟩ (fun hHeld3 => ?_)
                  clear hK K
                  refine wpAnyH_takeD (i := 9) (v := ?_) 16 rfl (by kernel_rfl) (by kernel_rfl) (by kernel_rfl) (fun _ _ _ h => h) (Or.inl ⟨by rfl, ?_⟩) (by assumption) rfl ?_
                  rotate_left
                  · intro w' hSw
                    have c1 := below_cell hSw.1 HC1.out; have r0 := hSw.2.1; have r1 := hSw.2.2
                    go_simp <;> with_reducible rfl
                  simp only [List.setIfInBounds_toArray, List.set_cons_succ, List.set_cons_zero]
                  refine wpAnyH_done (by kernel_rfl) ?_ _
                  clear hHeld hHeld2 hHeld3
                  go_wp2
                  exact ⟨⟨i + 1, by go_num, by omega, by rw [HTk.out]; exact HO9.out, HU9.out⟩, by simp [intOf]; omega⟩
              · have HBz := Lib.hid (HBw.out.trans (HU.out.mono HBw.out.size))
                have hil : i = ch.length := by omega
                subst hil
                have HSz := Lib.hid (Sl.of_own HO.out)
                rw [List.take_of_length_le (Nat.le_refl _)] at HSz
                go_wp2
                go_ret2
                exact ⟨HBz.out, _, rfl, HSz.out⟩
/-- The reference answers as the program. -/
theorem rheirs_any (A : Option Addr) (c : Nat) (F : Option Addr) (d : Nat) (ps : List ByteArray) (fs : List Fa) (a : ByteArray) (w : World) (h : NetC w A ps.length c F fs.length d ps fs) (hs : Short ps) :
    Calls Tryz.prog 13 #[.agg #[.slice A ps.length c, .slice F fs.length d], .string a] w (HeirsP (heirsV ps fs a) w) := by
  rcases namedF_cases ps fs [a] with hr | ⟨hc, hk, hp, hfew, hf, _⟩
  · have := rheirs_bad _ hr A c F d ps fs a w h hs rfl
    unfold heirsV
    rw [if_pos (by omega)]
    exact this
  · cases hD : solveF ps fs with
    | none =>
      have := rheirs_contrary A c F d ps fs a w h hs hc hp hfew hf hD
      unfold heirsV
      rw [if_neg (by omega), hD]
      exact this
    | some Dm =>
      have hno : namesOk ps = true := by
        rcases checkF_cases ps fs with q | q | ⟨_, _, _, q, _⟩
        · omega
        · omega
        · exact q
      have := rheirs_good A c F d ps fs a w h hs hc hp hfew hf Dm hD _ rfl _ _ (fun q => name_some hno (childrenF_mem hf (s := a) q)) rfl rfl
      unfold heirsV
      rw [if_neg (by omega), hD]
      exact this
end Go.Proofs.YtdmcopjbckelmaaGreatDoor
