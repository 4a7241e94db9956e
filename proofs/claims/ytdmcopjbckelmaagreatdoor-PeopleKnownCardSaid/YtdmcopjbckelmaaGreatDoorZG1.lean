/- Walks of the reference: pair, valid, Check. Conditions: those stated. -/
import Derived.Test.YtdmcopjbckelmaaGreatDoorZRB
namespace Go.Proofs.YtdmcopjbckelmaaGreatDoor
open Go Go.RowKit Go.Shelf
attribute [local go_sem] Oper.semAt_some

theorem rpair_any (k : Int) (w : World) : Calls Tryz.prog 135 #[.int .i64 k] w fun e w' => e = .returned (.bool (pairB k)) ∧ w = w' := by
  have HR : ∀ r, pairB k = r → Hid (pairB k = r) := fun r h => Lib.hid h
  by_cases h1 : 1 ≤ k
  · by_cases h2 : k ≤ 3
    · have hr := HR true (decide_eq_true ⟨h1, h2⟩)
      clear HR
      go_enter Tryz.func135, Tryz.ntmps135
      go_wp2
      go_ret
      exact ⟨by rw [hr.out]; first | rfl | exact ret_bool (decide_eq_true (by omega)), rfl⟩
    · have hr := HR false (decide_eq_false (by omega))
      clear HR
      go_enter Tryz.func135, Tryz.ntmps135
      go_wp2
      go_ret
      exact ⟨by rw [hr.out]; first | rfl | exact ret_bool (decide_eq_false (by omega)), rfl⟩
  · have hr := HR false (decide_eq_false (by omega))
    clear HR
    go_enter Tryz.func135, Tryz.ntmps135
    go_wp2
    go_ret
    exact ⟨by rw [hr.out]; first | rfl | exact ret_bool (decide_eq_false (by omega)), rfl⟩
theorem rpair_is {k : Int} {r : Bool} (h : pairB k = r) (w : World) : Calls Tryz.prog 135 #[.int .i64 k] w fun e w' => e = .returned (.bool r) ∧ w = w' := by
  have := rpair_any k w
  rw [h] at this
  exact this
theorem rAt_in {v : Value} {l : List ByteArray} {s : ByteArray} {i : Int} (w : World) (h : Sl w 1 v (namesV l)) (e : atF l s = i) : Calls Tryz.prog 39 #[v, .string s] w fun e w' => e = .returned (.int .i64 i) ∧ w' = w := by
  rw [← e]
  exact rAt_any v l s w h
set_option maxHeartbeats 2000000 in
theorem rvalid_any (v : Value) (ps : List ByteArray) (f : Fa) (w : World) (h : Sl w 1 v (namesV ps)) :
    Calls Tryz.prog 114 #[v, faA f] w fun e w' => e = .returned (.bool (aboutB ps f)) ∧ Below w.heap.size w w' := by
  obtain ⟨A, n, c, rfl, h⟩ := h.shape
  obtain ⟨k, a, b, t⟩ := f
  have HB := Lib.hid (below_alloc' w (.cells #[.int .i64 k, .string a, .string b, .int .i64 t] 76))
  have HA := Lib.hid (h.below HB.out)
  clear h
  have HR : ∀ r, aboutB ps ⟨k, a, b, t⟩ = r → Hid (aboutB ps ⟨k, a, b, t⟩ = r) := fun r h => Lib.hid h
  unfold faA
  simp only
  obtain ⟨i, hi⟩ : ∃ i, atF ps a = i := ⟨_, rfl⟩
  obtain ⟨j, hj⟩ : ∃ j, atF ps b = j := ⟨_, rfl⟩
  have KA := Lib.hid (rAt_in _ HA.out hi)
  have KB := Lib.hid (rAt_in _ HA.out hj)
  have ia := Lib.hid (show i < 0 ↔ ¬ a ∈ ps by rw [← hi]; exact atF_neg)
  have jb := Lib.hid (show j < 0 ↔ ¬ b ∈ ps by rw [← hj]; exact atF_neg)
  clear hi hj
  by_cases h0 : i < 0
  · have hr := HR false (by rw [Bool.eq_false_iff]; intro q; exact (ia.out.1 h0) (aboutB_iff.1 q).2.1)
    clear HR KB
    go_enter Tryz.func114, Tryz.ntmps114
    go_wp2_with fail
    refine KA.out.mono ?_
    rintro e w' ⟨rfl, rfl⟩
    go_wp2
    go_ret
    exact ⟨by rw [hr.out]; rfl, HB.out⟩
  · have HM := Lib.hid (show a ∈ ps from Classical.byContradiction fun q => h0 (ia.out.2 q))
    clear ia
    by_cases h1 : k < 1
    · have hr := HR false (by unfold aboutB; rw [decide_eq_false (by simp only; omega)]; rfl)
      clear HR KB
      go_enter Tryz.func114, Tryz.ntmps114
      go_wp2_with fail
      refine KA.out.mono ?_
      rintro e w' ⟨rfl, rfl⟩
      go_wp2
      go_ret
      exact ⟨by rw [hr.out]; rfl, HB.out⟩
    · by_cases h2 : 7 < k
      · have hr := HR false (by unfold aboutB; rw [decide_eq_false (by simp only; omega)]; rfl)
        clear HR KB
        go_enter Tryz.func114, Tryz.ntmps114
        go_wp2_with fail
        refine KA.out.mono ?_
        rintro e w' ⟨rfl, rfl⟩
        go_wp2
        go_ret
        exact ⟨by rw [hr.out]; rfl, HB.out⟩
      · by_cases h3 : k ≤ 3
        · have hp : pairB k = true := decide_eq_true (by omega)
          have KP := Lib.hid (rpair_is hp (w.alloc (.cells #[.int .i64 k, .string a, .string b, .int .i64 t] 76)))
          by_cases hj : j < 0
          · have hr := HR false (by rw [Bool.eq_false_iff]; intro q; exact (jb.out.1 hj) ((aboutB_iff.1 q).2.2.1 h3).2.1)
            have n1 : ¬ (0 : Int) ≤ j := by omega
            clear HR hp
            go_enter Tryz.func114, Tryz.ntmps114
            go_wp2_with fail
            refine KA.out.mono ?_
            rintro e w' ⟨rfl, rfl⟩
            go_wp2_with fail
            refine KP.out.mono ?_
            rintro e w' ⟨rfl, rfl⟩
            go_wp2_with fail
            refine KB.out.mono ?_
            rintro e w' ⟨rfl, rfl⟩
            go_wp2
            go_ret
            exact ⟨by rw [hr.out]; first | rfl | exact ret_bool (decide_eq_true (by omega)) | exact ret_bool (decide_eq_false (by omega)) | exact ret_bool (beq_eq_false_iff_ne.2 (by omega)), HB.out⟩
          · have HMb := Lib.hid (show b ∈ ps from Classical.byContradiction fun q => hj (jb.out.2 q))
            have n1 : (0 : Int) ≤ j := by omega
            by_cases hba : b = a
            · have hr := HR false (by rw [Bool.eq_false_iff]; intro q; exact ((aboutB_iff.1 q).2.2.1 h3).1 hba)
              subst hba
              have hq : (b.toList == b.toList) = true := by simp
              have hq2 : (b.toList != b.toList) = false := by simp
              clear HR hp
              go_enter Tryz.func114, Tryz.ntmps114
              go_wp2_with fail
              refine KA.out.mono ?_
              rintro e w' ⟨rfl, rfl⟩
              go_wp2_with fail
              refine KP.out.mono ?_
              rintro e w' ⟨rfl, rfl⟩
              go_wp2_with fail
              refine KB.out.mono ?_
              rintro e w' ⟨rfl, rfl⟩
              go_wp2
              go_ret
              exact ⟨by rw [hr.out]; first | rfl | exact ret_bool (decide_eq_true (by omega)) | exact ret_bool (decide_eq_false (by omega)) | exact ret_bool (beq_eq_false_iff_ne.2 (by omega)), HB.out⟩
            · have hq : (b.toList == a.toList) = false := by
                rw [Bool.eq_false_iff]; intro q; exact hba ((Lib.bytes_beq_iff _ _).1 q)
              have hq2 : (b.toList != a.toList) = true := by rw [bne, hq]; rfl
              by_cases ht : t = 0
              · have hr := HR true (aboutB_iff.2 ⟨by simp only; omega, HM.out, fun _ => ⟨hba, HMb.out, ht⟩, fun q => absurd h3 q⟩)
                subst ht
                clear HR hp hba
                go_enter Tryz.func114, Tryz.ntmps114
                go_wp2_with fail
                refine KA.out.mono ?_
                rintro e w' ⟨rfl, rfl⟩
                go_wp2_with fail
                refine KP.out.mono ?_
                rintro e w' ⟨rfl, rfl⟩
                go_wp2_with fail
                refine KB.out.mono ?_
                rintro e w' ⟨rfl, rfl⟩
                go_wp2
                go_ret
                exact ⟨by rw [hr.out]; first | rfl | exact ret_bool (decide_eq_true (by omega)) | exact ret_bool (decide_eq_false (by omega)) | exact ret_bool (beq_eq_false_iff_ne.2 (by omega)), HB.out⟩
              · have hr := HR false (by rw [Bool.eq_false_iff]; intro q; exact ht ((aboutB_iff.1 q).2.2.1 h3).2.2)
                have ht2 : (t == 0) = false := beq_eq_false_iff_ne.2 ht
                clear HR hp hba ht
                go_enter Tryz.func114, Tryz.ntmps114
                go_wp2_with fail
                refine KA.out.mono ?_
                rintro e w' ⟨rfl, rfl⟩
                go_wp2_with fail
                refine KP.out.mono ?_
                rintro e w' ⟨rfl, rfl⟩
                go_wp2_with fail
                refine KB.out.mono ?_
                rintro e w' ⟨rfl, rfl⟩
                go_wp2
                go_ret
                exact ⟨by rw [hr.out]; first | rfl | exact ret_bool (decide_eq_true (by omega)) | exact ret_bool (decide_eq_false (by omega)) | exact ret_bool (beq_eq_false_iff_ne.2 (by omega)), HB.out⟩
        · have hp : pairB k = false := decide_eq_false (by omega)
          have KP := Lib.hid (rpair_is hp (w.alloc (.cells #[.int .i64 k, .string a, .string b, .int .i64 t] 76)))
          by_cases hb : b = ByteArray.empty
          · by_cases ht1 : -1000 ≤ t
            · by_cases ht2 : t ≤ 1000
              · have hr := HR true (aboutB_iff.2 ⟨by simp only; omega, HM.out, fun q => absurd q h3, fun _ => ⟨hb, ht1, ht2⟩⟩)
                subst hb
                clear HR hp KB
                go_enter Tryz.func114, Tryz.ntmps114
                go_wp2_with fail
                refine KA.out.mono ?_
                rintro e w' ⟨rfl, rfl⟩
                go_wp2_with fail
                refine KP.out.mono ?_
                rintro e w' ⟨rfl, rfl⟩
                go_wp2
                go_ret
                exact ⟨by rw [hr.out]; first | rfl | exact ret_bool (decide_eq_true (by omega)) | exact ret_bool (decide_eq_false (by omega)) | exact ret_bool (beq_eq_false_iff_ne.2 (by omega)), HB.out⟩
              · have hr := HR false (by rw [Bool.eq_false_iff]; intro q; exact ht2 ((aboutB_iff.1 q).2.2.2 h3).2.2)
                subst hb
                clear HR hp KB
                go_enter Tryz.func114, Tryz.ntmps114
                go_wp2_with fail
                refine KA.out.mono ?_
                rintro e w' ⟨rfl, rfl⟩
                go_wp2_with fail
                refine KP.out.mono ?_
                rintro e w' ⟨rfl, rfl⟩
                go_wp2
                go_ret
                exact ⟨by rw [hr.out]; first | rfl | exact ret_bool (decide_eq_true (by omega)) | exact ret_bool (decide_eq_false (by omega)) | exact ret_bool (beq_eq_false_iff_ne.2 (by omega)), HB.out⟩
            · have hr := HR false (by rw [Bool.eq_false_iff]; intro q; exact ht1 ((aboutB_iff.1 q).2.2.2 h3).2.1)
              subst hb
              clear HR hp KB
              go_enter Tryz.func114, Tryz.ntmps114
              go_wp2_with fail
              refine KA.out.mono ?_
              rintro e w' ⟨rfl, rfl⟩
              go_wp2_with fail
              refine KP.out.mono ?_
              rintro e w' ⟨rfl, rfl⟩
              go_wp2
              go_ret
              exact ⟨by rw [hr.out]; first | rfl | exact ret_bool (decide_eq_true (by omega)) | exact ret_bool (decide_eq_false (by omega)) | exact ret_bool (beq_eq_false_iff_ne.2 (by omega)), HB.out⟩
          · have hr := HR false (by rw [Bool.eq_false_iff]; intro q; exact hb ((aboutB_iff.1 q).2.2.2 h3).1)
            have hq : (b.toList == []) = false := by
              rw [Bool.eq_false_iff]; intro q; exact hb ((Lib.bytes_beq_iff b ByteArray.empty).1 (by rw [show ByteArray.empty.toList = [] by simp]; exact q))
            have hq2 : b.toList.isEmpty = false := by
              rw [List.isEmpty_eq_false_iff]; intro q; rw [q] at hq; cases hq
            clear HR hp KB hb
            go_enter Tryz.func114, Tryz.ntmps114
            go_wp2_with fail
            refine KA.out.mono ?_
            rintro e w' ⟨rfl, rfl⟩
            go_wp2_with fail
            refine KP.out.mono ?_
            rintro e w' ⟨rfl, rfl⟩
            go_wp2
            go_ret
            exact ⟨by rw [hr.out]; first | rfl | exact ret_bool (decide_eq_true (by omega)) | exact ret_bool (decide_eq_false (by omega)) | exact ret_bool (beq_eq_false_iff_ne.2 (by omega)), HB.out⟩
set_option maxRecDepth 100000 in
set_option maxHeartbeats 8000000 in
theorem rcheck_any (A : Option Addr) (n c : Nat) (F : Option Addr) (m d : Nat) (ps : List ByteArray) (fs : List Fa) (w : World) (h : NetC w A n c F m d ps fs) (hs : Short ps) :
    Calls Tryz.prog 76 #[.agg #[.slice A n c, .slice F m d]] w fun e w' => e = .returned (.int .i64 (checkF ps fs)) ∧ Below w.heap.size w w' := by
  obtain ⟨e1, e2, h1, h2, h3, h4⟩ := h.many
  subst e1
  subst e2
  have HN := Lib.hid h
  have HFc := Lib.hid (fun q => h.fact q)
  have HPc := Lib.hid (fun q => h.person q)
  have HS := Lib.hid hs
  have HR : ∀ r, checkF ps fs = r → Hid (checkF ps fs = r) := fun r h => Lib.hid h
  clear h hs
  have hb0 := below_alloc' w (.cells #[.slice A ps.length c, .slice F fs.length d] 25)
  have y0 := Cel.new w 25 #[.slice A ps.length c, .slice F fs.length d]
  have z0 := y0.cell 0 _ rfl
  have z1 := y0.cell 1 _ rfl
  by_cases q1 : 24 < ps.length
  · have hr := HR 3 (by unfold checkF; rw [if_pos (.inl q1)])
    clear HR y0
    go_enter Tryz.func76, Tryz.ntmps76
    go_wp2
    go_ret
    exact ⟨by rw [hr.out]; rfl, hb0⟩
  · by_cases q2 : 48 < fs.length
    · have hr := HR 3 (by unfold checkF; rw [if_pos (.inr q2)])
      clear HR y0
      go_enter Tryz.func76, Tryz.ntmps76
      go_wp2
      go_ret
      exact ⟨by rw [hr.out]; rfl, hb0⟩
    · have HL := Lib.hid (show ¬ (24 < ps.length ∨ 48 < fs.length) by omega)
      have HB0 := Lib.hid hb0
      have HY := Lib.hid y0
      clear hb0 y0
      have d1 : decide ((24 : Int) < (ps.length : Int)) = false := decide_eq_false (by omega)
      have d2 : decide ((48 : Int) < (fs.length : Int)) = false := decide_eq_false (by omega)
      go_enter Tryz.func76, Tryz.ntmps76
      go_wp2
      obtain ⟨W, hW⟩ : ∃ W, w.alloc (.cells #[.slice A ps.length c, .slice F fs.length d] 25) = W := ⟨_, rfl⟩
      rw [hW] at HB0 HY z0 z1 ⊢
      clear hW d1 d2
      go_loopw [3] (fun ti wr => ∃ i : Nat, ti = .int .i64 i ∧ i ≤ ps.length ∧ Hid (∀ j, j < i → okAt ps j = true) ∧ Hid (Below W.heap.size W wr)) (fun ti _ => ps.length - (intOf ti).toNat)
      case atStart => exact ⟨0, rfl, by omega, fun j hj => absurd hj (Nat.not_lt_zero _), Below.refl _ _⟩
      case round =>
        clear z0 z1
        obtain ⟨i, rfl, hi, HO, HW⟩ := hrel
        have HBr := Lib.hid (HB0.out.trans (HW.out.mono HB0.out.size))
        have z0 := (HY.out.below HY.out.lt HW.out).cell 0 _ rfl
        have z1 := (HY.out.below HY.out.lt HW.out).cell 1 _ rfl
        by_cases hlt : i < ps.length
        · have hii : (i : Int) < (ps.length : Int) := by omega
          obtain ⟨b, o, rfl, hb, hce⟩ := HPc.out (by omega)
          have hget : ps[i]? = some ps[i] := List.getElem?_eq_getElem hlt
          have c1 := below_cell HBr.out (hce i _ hget)
          have HIs := Lib.hid (fun w' => risName_any ps[i] w' (HS.out _ (List.getElem_mem hlt)))
          have HD := Lib.hid (getD_of hget)
          cases hnb : nameB ps[i] with
          | false =>
            rw [hnb] at HIs
            have hr := HR 100 (okAt_no hlt (by unfold okAt; rw [HD.out, hnb]; rfl) HL.out)
            clear HR hnb hget hce
            generalize ps[i] = s at *
            go_upto_region 6 with fail
            go_quiet ((go_at_call 113; exact quiet_left (HIs.out _)))
            go_wp2
            go_ret
            exact ⟨by rw [hr.out]; rfl, below_drewN HBr.out _⟩
          | true =>
            rw [hnb] at HIs
            by_cases h0 : i = 0
            · have HK := Lib.hid (show okAt ps i = true by unfold okAt; rw [HD.out, hnb, decide_eq_true h0]; rfl)
              have hgt : decide ((0 : Int) < (i : Int)) = false := decide_eq_false (by omega)
              have hgt2 : decide (0 < i) = false := decide_eq_false (by omega)
              have h00 : ¬ 0 < i := by omega
              clear HR hnb hget hce h0
              generalize ps[i] = s at *
              go_upto_region 6 with fail
              go_quiet ((go_at_call 113; exact quiet_left (HIs.out _)))
              go_wp2
              go_roundw
              case rel => exact ⟨i + 1, by go_num, by omega, ok_next HO.out HK.out, below_drewN HW.out _⟩
              case measure => simp [intOf]; omega
            · obtain ⟨q, hq⟩ : ∃ q, i = q + 1 := ⟨i - 1, by omega⟩
              obtain ⟨sq, hgetq⟩ : ∃ s, ps[q]? = some s := ⟨_, List.getElem?_eq_getElem (by omega)⟩
              have c0 := below_cell HBr.out (hce q _ hgetq)
              have HDq := Lib.hid (getD_of hgetq)
              have hqi : (q : Int) < (ps.length : Int) := by omega
              have hgt : decide ((0 : Int) < (i : Int)) = true := decide_eq_true (by omega)
              have hgt2 : decide (0 < i) = true := decide_eq_true (by omega)
              have hwq : IntKind.i64.wrap ((i : Int) - 1) = (q : Int) := by rw [IntWalk.i64_in _ (by omega)]; omega
              have hq0 : (0 : Int) ≤ (q : Int) := by omega
              have HQi := Lib.hid hq
              cases hls : Op.bytesLess sq.toList ps[i].toList with
              | true =>
                have HK := Lib.hid (show okAt ps i = true by unfold okAt; rw [HD.out, hnb, show i - 1 = q by omega, HDq.out, hls]; simp)
                clear HR hnb hget hgetq hce h0 HD HDq hq
                generalize ps[i] = s at *
                go_upto_region 6 with fail
                go_quiet ((go_at_call 113; exact quiet_left (HIs.out _)))
                go_wp2
                go_roundw
                case rel => exact ⟨i + 1, by go_num, by omega, ok_next HO.out HK.out, below_drewN HW.out _⟩
                case measure => simp [intOf]; omega
              | false =>
                have hr := HR 100 (okAt_no hlt (by unfold okAt; rw [HD.out, hnb, show i - 1 = q by omega, HDq.out, hls, decide_eq_false h0]; simp) HL.out)
                clear HR hnb hget hgetq hce h0 HD HDq hq
                generalize ps[i] = s at *
                go_upto_region 6 with fail
                go_quiet ((go_at_call 113; exact quiet_left (HIs.out _)))
                go_wp2
                go_ret
                exact ⟨by rw [hr.out]; rfl, below_drewN HBr.out _⟩
        · have hin : i = ps.length := by omega
          have HNo := Lib.hid (ok_all HO.out hin)
          clear HO hin hi
          go_wp2
          clear hlt z0 z1 HBr
          have HW0 := Lib.hid HW.out
          clear HW
          go_loopw [4] (fun ti wr => ∃ j : Nat, ti = .int .i64 j ∧ j ≤ fs.length ∧ Hid (AllAbout ps (fs.take j)) ∧ Hid (Below W.heap.size W wr)) (fun ti _ => fs.length - (intOf ti).toNat)
          case atStart => exact ⟨0, rfl, by omega, fun f hf => by simp at hf, HW0.out⟩
          case round =>
            clear HW0
            obtain ⟨j, rfl, hj, HO, HW⟩ := hrel
            obtain ⟨wx, hwx⟩ : ∃ wx, wx = wr := ⟨_, rfl⟩
            rw [← hwx] at HW ⊢
            clear hwx
            have HBr := Lib.hid (HB0.out.trans (HW.out.mono HB0.out.size))
            have z0' := (HY.out.below HY.out.lt HW.out).cell 0 _ rfl
            have z1' := (HY.out.below HY.out.lt HW.out).cell 1 _ rfl
            by_cases hlj : j < fs.length
            · have hji : (j : Int) < (fs.length : Int) := by omega
              obtain ⟨b0, o0, rfl, hb, hce⟩ := HFc.out (by omega)
              have hfj : fs[j]? = some fs[j] := List.getElem?_eq_getElem hlj
              have hm : fs[j] ∈ fs := List.getElem_mem hlj
              obtain ⟨g1', g2', g3', g4'⟩ := hce j _ hfj
              replace g1' := below_cell HBr.out g1'
              replace g2' := below_cell HBr.out g2'
              replace g3' := below_cell HBr.out g3'
              replace g4' := below_cell HBr.out g4'
              have HT := Lib.hid (show fs.take (j + 1) = fs.take j ++ [fs[j]] by rw [List.take_add_one, hfj]; rfl)
              have HA := Lib.hid (fun w' h1 => rvalid_any (.slice A ps.length c) ps fs[j] w' h1)
              have HNo2 := Lib.hid (fun q => about_no hm q HL.out)
              clear hce hfj hm
              unfold faA at HA
              generalize fs[j] = f at *
              obtain ⟨k, a, b, t⟩ := f
              simp only at g1' g2' g3' g4' HA
              go_upto_region 11 with fail
              refine wp_region_held_drew (S := fun w' => Below wx.heap.size wx w') (by kernel_rfl) (below_drew (Below.refl _ _)) (fun hHeld => ?_)
              refine wpAnyH_takeD (i := 0) (v := ?_) 54 rfl (by kernel_rfl) (by kernel_rfl) (by kernel_rfl) (fun _ _ _ h => h) (Or.inl ⟨by rfl, ?_⟩) (by assumption) rfl ?_
              rotate_left
              · intro w' hSw
                have z0 := below_cell hSw z0'; have z1 := below_cell hSw z1'; have g1 := below_cell hSw g1'; have g2 := below_cell hSw g2'; have g3 := below_cell hSw g3'; have g4 := below_cell hSw g4'
                go_simp <;> with_reducible rfl
              simp only [List.setIfInBounds_toArray, List.set_cons_succ, List.set_cons_zero]
              refine wpAnyH_takeD (i := 1) (v := ?_) 55 rfl (by kernel_rfl) (by kernel_rfl) (by kernel_rfl) (fun _ _ _ h => h) (Or.inl ⟨by rfl, ?_⟩) (by assumption) rfl ?_
              rotate_left
              · intro w' hSw
                have z0 := below_cell hSw z0'; have z1 := below_cell hSw z1'; have g1 := below_cell hSw g1'; have g2 := below_cell hSw g2'; have g3 := below_cell hSw g3'; have g4 := below_cell hSw g4'
                go_simp <;> with_reducible rfl
              simp only [List.setIfInBounds_toArray, List.set_cons_succ, List.set_cons_zero]
              refine wpAnyH_takeD (i := 2) (v := ?_) 56 rfl (by kernel_rfl) (by kernel_rfl) (by kernel_rfl) (fun _ _ _ h => h) (Or.inl ⟨by rfl, ?_⟩) (by assumption) rfl ?_
              rotate_left
              · intro w' hSw
                have z0 := below_cell hSw z0'; have z1 := below_cell hSw z1'; have g1 := below_cell hSw g1'; have g2 := below_cell hSw g2'; have g3 := below_cell hSw g3'; have g4 := below_cell hSw g4'
                go_simp <;> with_reducible rfl
              simp only [List.setIfInBounds_toArray, List.set_cons_succ, List.set_cons_zero]
              refine wpAnyH_takeD (i := 3) (v := ?_) 57 rfl (by kernel_rfl) (by kernel_rfl) (by kernel_rfl) (fun _ _ _ h => h) (Or.inl ⟨by rfl, ?_⟩) (by assumption) rfl ?_
              rotate_left
              · intro w' hSw
                have z0 := below_cell hSw z0'; have z1 := below_cell hSw z1'; have g1 := below_cell hSw g1'; have g2 := below_cell hSw g2'; have g3 := below_cell hSw g3'; have g4 := below_cell hSw g4'
                go_simp <;> with_reducible rfl
              simp only [List.setIfInBounds_toArray, List.set_cons_succ, List.set_cons_zero]
              refine wpAnyH_takeD (i := 4) (v := ?_) 58 rfl (by kernel_rfl) (by kernel_rfl) (by kernel_rfl) (fun _ _ _ h => h) (Or.inl ⟨by rfl, ?_⟩) (by assumption) rfl ?_
              rotate_left
              · intro w' hSw
                have z0 := below_cell hSw z0'; have z1 := below_cell hSw z1'; have g1 := below_cell hSw g1'; have g2 := below_cell hSw g2'; have g3 := below_cell hSw g3'; have g4 := below_cell hSw g4'
                go_simp <;> with_reducible rfl
              simp only [List.setIfInBounds_toArray, List.set_cons_succ, List.set_cons_zero]
              refine wpAnyH_takeD (i := 5) (v := ?_) 59 rfl (by kernel_rfl) (by kernel_rfl) (by kernel_rfl) (fun _ _ _ h => h) (Or.inl ⟨by rfl, ?_⟩) (by assumption) rfl ?_
              rotate_left
              · intro w' hSw
                have z0 := below_cell hSw z0'; have z1 := below_cell hSw z1'; have g1 := below_cell hSw g1'; have g2 := below_cell hSw g2'; have g3 := below_cell hSw g3'; have g4 := below_cell hSw g4'
                go_simp <;> with_reducible rfl
              simp only [List.setIfInBounds_toArray, List.set_cons_succ, List.set_cons_zero]
              refine wpAnyH_takeD (i := 6) (v := ?_) 60 rfl (by kernel_rfl) (by kernel_rfl) (by kernel_rfl) (fun _ _ _ h => h) (Or.inl ⟨by rfl, ?_⟩) (by assumption) rfl ?_
              rotate_left
              · intro w' hSw
                have z0 := below_cell hSw z0'; have z1 := below_cell hSw z1'; have g1 := below_cell hSw g1'; have g2 := below_cell hSw g2'; have g3 := below_cell hSw g3'; have g4 := below_cell hSw g4'
                go_simp <;> with_reducible rfl
              simp only [List.setIfInBounds_toArray, List.set_cons_succ, List.set_cons_zero]
              refine wpAnyH_ready (rs := [7]) (by kernel_rfl) (by simp) ?_
              refine AllReadyH.cons (o := _) rfl (fun K hK => ?_) AllReadyH.nil
              go_simp
              go_at_call 114
              refine (HA.out _ (HN.out.people.below (HBr.out.trans (hHeld.mono HBr.out.size)))).mono ?_
              rintro e w5 ⟨rfl, hb5⟩
              have hb6 := hHeld.trans (hb5.mono hHeld.size)
              have HW6 := Lib.hid (HW.out.trans (hb6.mono HW.out.size))
              refine hK.out _ _ hb6 (fun hHeld5 => ?_)
              clear hb5 hb6
              clear hK K
              refine wpAnyH_takeD (i := 8) (v := ?_) 62 rfl (by kernel_rfl) (by kernel_rfl) (by kernel_rfl) (fun _ _ _ h => h) (Or.inl ⟨by rfl, ?_⟩) (by assumption) rfl ?_
              rotate_left
              · intro w' hSw
                have z0 := below_cell hSw z0'; have z1 := below_cell hSw z1'; have g1 := below_cell hSw g1'; have g2 := below_cell hSw g2'; have g3 := below_cell hSw g3'; have g4 := below_cell hSw g4'
                go_simp <;> with_reducible rfl
              simp only [List.setIfInBounds_toArray, List.set_cons_succ, List.set_cons_zero]
              refine wpAnyH_done (by kernel_rfl) ?_ _
              cases hq : aboutB ps ⟨k, a, b, t⟩ with
              | false =>
                have hr := HR 100 (HNo2.out hq)
                clear HR hq
                go_wp2
                go_ret
                exact ⟨by rw [hr.out]; rfl, HB0.out.trans (HW6.out.mono HB0.out.size)⟩
              | true =>
                have HQ := Lib.hid hq
                clear hq
                go_wp2
                go_roundw
                case rel =>
                  refine ⟨j + 1, by go_num, by omega, ?_, HW6.out⟩
                  show AllAbout ps (fs.take (j + 1))
                  rw [HT.out]
                  intro f hf
                  rcases List.mem_append.1 hf with q | q
                  · exact HO.out f q
                  · rw [List.mem_singleton.1 q]; exact HQ.out
                case measure => simp [intOf]; omega
            · have hjn : j = fs.length := by omega
              have z1 := z1'
              have hr := HR 0 (check_yes HL.out HNo.out (by have := HO.out; rw [hjn, List.take_length] at this; exact this))
              clear HR hjn hj HO z0' z1'
              go_wp2
              go_ret
              exact ⟨by rw [hr.out]; rfl, HBr.out⟩
end Go.Proofs.YtdmcopjbckelmaaGreatDoor
