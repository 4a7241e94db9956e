/- PeopleKinFinds: the walk. Conditions: those stated. -/
import Derived.Test.YtdmcopjbckelmaaGreatDoorZI4
import Derived.Test.YtdmcopjbckelmaaGreatDoorZA5
import Derived.Test.YtdmcopjbckelmaaGreatDoorZG3
import Derived.Test.YtdmcopjbckelmaaGreatDoorZRB
import Derived.Test.YtdmcopjbckelmaaGreatDoorZH
namespace Go.Proofs.YtdmcopjbckelmaaGreatDoor
open Go Go.RowKit Go.Shelf
attribute [local go_sem] Oper.semAt_some

theorem check_parts {ps : List ByteArray} {fs : List Fa} (hk : checkF ps fs = 0) : namesOk ps = true ∧ AllAbout ps fs := by
  rcases checkF_cases ps fs with q | q | ⟨_, _, _, q1, q2⟩
  · omega
  · omega
  · exact ⟨q1, q2⟩
/-- What both Ancestors answer. -/
noncomputable def ancL (ps : List ByteArray) (fs : List Fa) (a : ByteArray) : List ByteArray := if namedF ps fs [a] = 0 then ps.filter (AncI ps fs a ps.length) else []
theorem anc_names (A : Option Addr) (n c : Nat) (F : Option Addr) (m d : Nat) (ps : List ByteArray) (fs : List Fa) (a : ByteArray) (w : World) (h : NetC w A n c F m d ps fs) (hs : Short ps) :
    Calls Tryz.prog 33 #[.agg #[.slice A n c, .slice F m d], .string a] w (NamesP (ancL ps fs a) (namedF ps fs [a]) w) := by
  unfold ancL
  rcases namedF_cases ps fs [a] with hr | ⟨hc, hk, hp, hfew, _, hall⟩
  · rw [if_neg (by omega)]
    refine (ancestors_bad _ hr A n c F m d ps fs a w h hs rfl).mono ?_
    rintro e w' ⟨rfl, hb⟩
    exact ⟨hb, _, rfl, Sl.nil0 _ _⟩
  · rw [hc, if_pos rfl]
    obtain ⟨q1, q2⟩ := check_parts hk
    refine (ancestors_inc A n c F m d ps fs a w h hs hc q2 hp hfew).mono ?_
    rintro e w' ⟨hb, v, l, rfl, hv, hi, hl⟩
    have hll : l = ps.filter (AncI ps fs a ps.length) := by
      refine incS_ext hi (incS_filter (incS_of q1) _) fun s => ?_
      rw [hl, List.mem_filter, ancI_all q2]
      refine ⟨fun q => ⟨?_, q⟩, fun q => q.2⟩
      obtain ⟨p, hp', hu⟩ := q
      obtain ⟨k, hk'⟩ := up_lv hu
      obtain ⟨j, _, hj⟩ := hk'.least
      exact hj.mem (par_mem q2 a p hp') (par_mem q2)
    rw [← hll]
    exact ⟨hb, v, rfl, hv⟩
theorem ranc_names (A : Option Addr) (n c : Nat) (F : Option Addr) (m d : Nat) (ps : List ByteArray) (fs : List Fa) (a : ByteArray) (w : World) (h : NetC w A n c F m d ps fs) (hs : Short ps) :
    Calls Tryz.prog 34 #[.agg #[.slice A n c, .slice F m d], .string a] w (NamesP (ancL ps fs a) (namedF ps fs [a]) w) := by
  obtain ⟨e1, e2, _⟩ := h.many
  subst e1
  subst e2
  unfold ancL
  rcases namedF_cases ps fs [a, a] with hr | ⟨hc, hk, hp, hfew, _, hall⟩
  · have := ranc_bad _ hr A c F d ps fs a w h hs rfl
    rw [named_self] at this hr
    rw [if_neg (by omega)]
    exact this
  · have := ranc_good A c F d ps fs a w h hs hc hp (check_parts hk).2 (hall a (by simp))
    rw [named_self] at hc
    rw [hc, if_pos rfl]
    exact this
/-- Both Kin answer the same. -/
theorem kin_pair (ps : List ByteArray) (fs : List Fa) (a b : ByteArray) (hs : Short ps) : ∃ P R : Int → Int → Int → Prop,
    (∀ A c F d w, NetC w A ps.length c F fs.length d ps fs → Calls Tryz.prog 35 #[.agg #[.slice A ps.length c, .slice F fs.length d], .string a, .string b] w fun e w' => Below w.heap.size w w' ∧ ∃ x y z, P x y z ∧ e = .returned (.tuple #[.int .i64 x, .int .i64 y, .int .i64 z])) ∧
    (∀ A c F d w, NetC w A ps.length c F fs.length d ps fs → Calls Tryz.prog 36 #[.agg #[.slice A ps.length c, .slice F fs.length d], .string a, .string b] w fun e w' => Below w.heap.size w w' ∧ ∃ x y z, R x y z ∧ e = .returned (.tuple #[.int .i64 x, .int .i64 y, .int .i64 z])) ∧
    ∀ x y z x' y' z', P x y z → R x' y' z' → x' = x ∧ y' = y ∧ z' = z := by
  rcases namedF_cases ps fs [a, b] with hr | ⟨hc, hk, hp, hfew, _, hall⟩
  · refine ⟨fun x y z => x = 0 ∧ y = 0 ∧ z = namedF ps fs [a, b], fun x y z => x = 0 ∧ y = 0 ∧ z = namedF ps fs [a, b], fun A c F d w h => ?_, fun A c F d w h => ?_, fun x y z x' y' z' q r => ⟨r.1.trans q.1.symm, r.2.1.trans q.2.1.symm, r.2.2.trans q.2.2.symm⟩⟩
    · refine (kin_bad _ hr A ps.length c F fs.length d ps fs a b w h hs rfl).mono ?_
      rintro e w' ⟨rfl, hb⟩
      exact ⟨hb, _, _, _, ⟨rfl, rfl, rfl⟩, rfl⟩
    · refine (rkin_bad _ hr A c F d ps fs a b w h hs rfl).mono ?_
      rintro e w' ⟨rfl, hb⟩
      exact ⟨hb, _, _, _, ⟨rfl, rfl, rfl⟩, rfl⟩
  · have hf := (check_parts hk).2
    have ha := hall a (by simp)
    have hb := hall b (by simp)
    refine ⟨fun x y z => ∃ iA iB fd, ∃ up dn : Nat, (abI fs [a] iA).2 = [] ∧ (abI fs [b] iB).2 = [] ∧ BestP (abI fs [a] iA).1 (abI fs [b] iB).1 fd up dn ∧ x = (up : Int) ∧ y = (dn : Int) ∧ z = if fd then 0 else 4,
      fun x y z => ∃ (u v : List Int) (best : Int), StT ps fs a u ∧ StT ps fs b v ∧ RBest u v ps.length best ∧ ((best = -1 ∧ x = 0 ∧ y = 0 ∧ z = 4) ∨ ∃ m : Nat, best = (m : Int) ∧ x = u.getD m 0 ∧ y = v.getD m 0 ∧ z = 0), fun A c F d w h => ?_, fun A c F d w h => ?_, ?_⟩
    · refine (kin_good A ps.length c F fs.length d ps fs a b w h hs hc ha hb hf hp hfew).mono ?_
      rintro e w' ⟨hb, iA, iB, fd, up, dn, h1, h2, h3, rfl⟩
      exact ⟨hb, _, _, _, ⟨iA, iB, fd, up, dn, h1, h2, h3, rfl, rfl, rfl⟩, rfl⟩
    · refine (rkin_good A c F d ps fs a b w h hs hc hp hf ha hb).mono ?_
      rintro e w' ⟨hb, u, v, best, h1, h2, h3, ⟨h4, rfl⟩ | ⟨m, h4, rfl⟩⟩
      · exact ⟨hb, _, _, _, ⟨u, v, best, h1, h2, h3, .inl ⟨h4, rfl, rfl, rfl⟩⟩, rfl⟩
      · exact ⟨hb, _, _, _, ⟨u, v, best, h1, h2, h3, .inr ⟨m, h4, rfl, rfl, rfl⟩⟩, rfl⟩
    · rintro x y z x' y' z' ⟨iA, iB, fd, up, dn, h1, h2, h3, rfl, rfl, rfl⟩ ⟨u, v, best, g1, g2, g3, g4⟩
      obtain ⟨k1, k2⟩ := kin_ref hf ha h1 h2 h3 g1 g2 g3
      cases fd with
      | false =>
        have e := k1 rfl
        obtain ⟨r1, r2, _⟩ := h3.1 rfl
        rcases g4 with ⟨_, q1, q2, q3⟩ | ⟨m, q, _⟩
        · subst r1 r2
          exact ⟨q1, q2, q3⟩
        · omega
      | true =>
        obtain ⟨k, e, _, r1, r2⟩ := k2 rfl
        rcases g4 with ⟨q, _⟩ | ⟨m, q, q1, q2, q3⟩
        · omega
        · obtain rfl : m = k := by omega
          exact ⟨q1.trans r1, q2.trans r2, q3⟩
set_option maxRecDepth 100000 in
set_option maxHeartbeats 8000000 in
theorem kinFinds_any (A : Option Addr) (c : Nat) (F : Option Addr) (d : Nat) (a b : ByteArray) (ps : List ByteArray) (fs : List Fa) (w : World) (h : NetC w A ps.length c F fs.length d ps fs) (hs : Short ps) (hz : Zw w) (hps : ps.length * 16 ≤ 140737488351232) (hfs : fs.length * 48 ≤ 140737488351232) :
    Calls Tryz.prog 6 #[.agg #[.slice A ps.length c, .slice F fs.length d], .string a, .string b] w fun e w' => e = .returned (.bool true) ∧ Below w.heap.size w w' := by
  have HB0 := Lib.hid (below_alloc' w (.cells #[.slice A ps.length c, .slice F fs.length d] 25))
  have HY := Lib.hid (Cel.new w 25 #[.slice A ps.length c, .slice F fs.length d])
  have HWk := Lib.hid (fun w' hb => works_any w' (hz.below hb))
  have HCo := Lib.hid (fun w' (hw : Below w.heap.size w w') => copy_any A ps.length c F fs.length d ps fs w' (h.below hw) (by omega) (by omega))
  have HP1 := Lib.hid (fun A c F d w' (hw : NetC w' A ps.length c F fs.length d ps fs) => pParents_any A ps.length c F fs.length d ps fs a w' hw hs)
  have HP2 := Lib.hid (fun w' (hw : Below w.heap.size w w') => rparents_any A ps.length c F fs.length d ps fs a w' (h.below hw) hs)
  have HC1 := Lib.hid (fun A c F d w' (hw : NetC w' A ps.length c F fs.length d ps fs) => pChildren_any A ps.length c F fs.length d ps fs a w' hw hs)
  have HC2 := Lib.hid (fun w' (hw : Below w.heap.size w w') => rchildren_any A ps.length c F fs.length d ps fs a w' (h.below hw) hs)
  have HA1 := Lib.hid (fun A c F d w' (hw : NetC w' A ps.length c F fs.length d ps fs) => anc_names A ps.length c F fs.length d ps fs a w' hw hs)
  have HA2 := Lib.hid (fun w' (hw : Below w.heap.size w w') => ranc_names A ps.length c F fs.length d ps fs a w' (h.below hw) hs)
  obtain ⟨P, R, hk1, hk2, hk3⟩ := kin_pair ps fs a b hs
  have HK1 := Lib.hid (fun A c F d w' (hw : NetC w' A ps.length c F fs.length d ps fs) => hk1 A c F d w' hw)
  have HK2 := Lib.hid (fun w' (hw : Below w.heap.size w w') => hk2 A c F d w' (h.below hw))
  have HKe := Lib.hid hk3
  have HSa := Lib.hid (fun A1 c1 F1 d1 w' (hw : NetC w' A1 ps.length c1 F1 fs.length d1 ps fs) (hb : Below w.heap.size w w') => same2_any A1 c1 F1 d1 A c F d ps fs w' hw (h.below hb))
  have HEq := Lib.hid (fun u v l w' hu hv => eqTexts_any u v l l w' hu hv)
  simp only [decide_true] at HEq
  generalize (if namedF ps fs [a] = 0 then parentsF fs a else []) = L1 at *
  generalize (if namedF ps fs [a] = 0 then childrenF fs a else []) = L2 at *
  generalize ancL ps fs a = L3 at *
  generalize namedF ps fs [a] = er at *
  have b1 : (er == er) = true := by simp
  clear h hs hz hps hfs hk1 hk2 hk3
  have cHY0 := HY.out.cell 0 _ rfl
  have cHY1 := HY.out.cell 1 _ rfl
  go_enter Tryz.func6, Tryz.ntmps6
  go_wp2_with fail
  clear cHY0 cHY1
  refine (HCo.out _ HB0.out).mono ?_
  rintro e w1 ⟨hb1, A1, c1, F1, d1, rfl, hn1⟩
  have HB1 := Lib.hid (HB0.out.trans (hb1.mono HB0.out.size))
  replace HY := Lib.hid (HY.out.below HY.out.lt hb1)
  have HN1 := Lib.hid hn1
  clear hn1
  clear hb1
  have cHY0 := HY.out.cell 0 _ rfl
  have cHY1 := HY.out.cell 1 _ rfl
  have l0 := (Cel.new w1 25 #[.slice none 0 0, .slice none 0 0]).cell 0 _ rfl
  have l1 := (Cel.new w1 25 #[.slice none 0 0, .slice none 0 0]).cell 1 _ rfl
  have l2 := (Cel.new w1 25 #[.slice none 0 0, .slice none 0 0]).frozen 0
  have l3 := (Cel.new w1 25 #[.slice none 0 0, .slice none 0 0]).frozen 1
  go_upto_region 2 with fail
  clear l0 l1 l2 l3
  clear cHY0 cHY1
  have HO := Lib.hid (Cel.new w1 25 #[.slice A1 ps.length c1, .slice F1 fs.length d1])
  have hb2 := below_alloc' w1 (.cells #[.slice A1 ps.length c1, .slice F1 fs.length d1] 25)
  obtain ⟨BHO, hBHO⟩ : ∃ B, w1.heap.size = B := ⟨_, rfl⟩
  generalize w1.alloc (.cells #[.slice A1 ps.length c1, .slice F1 fs.length d1] 25) = w2 at *
  have HB2 := Lib.hid (HB1.out.trans (hb2.mono HB1.out.size))
  replace HY := Lib.hid (HY.out.below HY.out.lt hb2)
  replace HN1 := Lib.hid (HN1.out.below hb2)
  rw [hBHO] at HO ⊢
  clear hb2 hBHO
  have cHY0 := HY.out.cell 0 _ rfl
  have cHY1 := HY.out.cell 1 _ rfl
  have cHO0 := HO.out.cell 0 _ rfl
  have cHO1 := HO.out.cell 1 _ rfl
  go_wp2_with fail
  clear cHY0 cHY1 cHO0 cHO1
  refine (HP1.out A1 c1 F1 d1 _ HN1.out).mono ?_
  rintro e w3 ⟨hb3, vx, rfl, hvx⟩
  have HB3 := Lib.hid (HB2.out.trans (hb3.mono HB2.out.size))
  replace HY := Lib.hid (HY.out.below HY.out.lt hb3)
  replace HO := Lib.hid (HO.out.below HO.out.lt hb3)
  replace HN1 := Lib.hid (HN1.out.below hb3)
  have HX := Lib.hid hvx
  clear hvx
  obtain ⟨Ax, nx, cx, rfl, HX⟩ : ∃ A n c, vx = .slice A n c ∧ Hid (Sl w3 1 (.slice A n c) (namesV L1)) := by obtain ⟨A, n, c, e, hh⟩ := HX.out.shape; exact ⟨A, n, c, e, hh⟩
  clear hb3
  have cHY0 := HY.out.cell 0 _ rfl
  have cHY1 := HY.out.cell 1 _ rfl
  have cHO0 := HO.out.cell 0 _ rfl
  have cHO1 := HO.out.cell 1 _ rfl
  go_wp2_with fail
  clear cHY0 cHY1 cHO0 cHO1
  refine (HP2.out _ HB3.out).mono ?_
  rintro e w4 ⟨hb4, vy, rfl, hvy⟩
  have HB4 := Lib.hid (HB3.out.trans (hb4.mono HB3.out.size))
  replace HY := Lib.hid (HY.out.below HY.out.lt hb4)
  replace HO := Lib.hid (HO.out.below HO.out.lt hb4)
  replace HN1 := Lib.hid (HN1.out.below hb4)
  replace HX := Lib.hid (HX.out.below hb4)
  have HV := Lib.hid hvy
  clear hvy
  obtain ⟨Ay, ny, cy, rfl, HV⟩ : ∃ A n c, vy = .slice A n c ∧ Hid (Sl w4 1 (.slice A n c) (namesV L1)) := by obtain ⟨A, n, c, e, hh⟩ := HV.out.shape; exact ⟨A, n, c, e, hh⟩
  clear hb4
  have cHY0 := HY.out.cell 0 _ rfl
  have cHY1 := HY.out.cell 1 _ rfl
  have cHO0 := HO.out.cell 0 _ rfl
  have cHO1 := HO.out.cell 1 _ rfl
  go_wp2_with fail
  clear cHY0 cHY1 cHO0 cHO1
  refine (HEq.out _ _ _ _ HX.out HV.out).mono ?_
  rintro e w5 ⟨rfl, hb5⟩
  have HB5 := Lib.hid (HB4.out.trans (hb5.mono HB4.out.size))
  replace HY := Lib.hid (HY.out.below HY.out.lt hb5)
  replace HO := Lib.hid (HO.out.below HO.out.lt hb5)
  replace HN1 := Lib.hid (HN1.out.below hb5)
  clear HX HV
  clear hb5
  have cHY0 := HY.out.cell 0 _ rfl
  have cHY1 := HY.out.cell 1 _ rfl
  have cHO0 := HO.out.cell 0 _ rfl
  have cHO1 := HO.out.cell 1 _ rfl
  go_wp2_with fail
  clear cHY0 cHY1 cHO0 cHO1
  refine (HC1.out A1 c1 F1 d1 _ HN1.out).mono ?_
  rintro e w6 ⟨hb6, vx, rfl, hvx⟩
  have HB6 := Lib.hid (HB5.out.trans (hb6.mono HB5.out.size))
  replace HY := Lib.hid (HY.out.below HY.out.lt hb6)
  replace HO := Lib.hid (HO.out.below HO.out.lt hb6)
  replace HN1 := Lib.hid (HN1.out.below hb6)
  have HX := Lib.hid hvx
  clear hvx
  obtain ⟨Ax, nx, cx, rfl, HX⟩ : ∃ A n c, vx = .slice A n c ∧ Hid (Sl w6 1 (.slice A n c) (namesV L2)) := by obtain ⟨A, n, c, e, hh⟩ := HX.out.shape; exact ⟨A, n, c, e, hh⟩
  clear hb6
  have cHY0 := HY.out.cell 0 _ rfl
  have cHY1 := HY.out.cell 1 _ rfl
  have cHO0 := HO.out.cell 0 _ rfl
  have cHO1 := HO.out.cell 1 _ rfl
  go_wp2_with fail
  clear cHY0 cHY1 cHO0 cHO1
  refine (HC2.out _ HB6.out).mono ?_
  rintro e w7 ⟨hb7, vy, rfl, hvy⟩
  have HB7 := Lib.hid (HB6.out.trans (hb7.mono HB6.out.size))
  replace HY := Lib.hid (HY.out.below HY.out.lt hb7)
  replace HO := Lib.hid (HO.out.below HO.out.lt hb7)
  replace HN1 := Lib.hid (HN1.out.below hb7)
  replace HX := Lib.hid (HX.out.below hb7)
  have HV := Lib.hid hvy
  clear hvy
  obtain ⟨Ay, ny, cy, rfl, HV⟩ : ∃ A n c, vy = .slice A n c ∧ Hid (Sl w7 1 (.slice A n c) (namesV L2)) := by obtain ⟨A, n, c, e, hh⟩ := HV.out.shape; exact ⟨A, n, c, e, hh⟩
  clear hb7
  have cHY0 := HY.out.cell 0 _ rfl
  have cHY1 := HY.out.cell 1 _ rfl
  have cHO0 := HO.out.cell 0 _ rfl
  have cHO1 := HO.out.cell 1 _ rfl
  go_wp2_with fail
  clear cHY0 cHY1 cHO0 cHO1
  refine (HEq.out _ _ _ _ HX.out HV.out).mono ?_
  rintro e w8 ⟨rfl, hb8⟩
  have HB8 := Lib.hid (HB7.out.trans (hb8.mono HB7.out.size))
  replace HY := Lib.hid (HY.out.below HY.out.lt hb8)
  replace HO := Lib.hid (HO.out.below HO.out.lt hb8)
  replace HN1 := Lib.hid (HN1.out.below hb8)
  clear HX HV
  clear hb8
  have cHY0 := HY.out.cell 0 _ rfl
  have cHY1 := HY.out.cell 1 _ rfl
  have cHO0 := HO.out.cell 0 _ rfl
  have cHO1 := HO.out.cell 1 _ rfl
  go_wp2_with fail
  clear cHY0 cHY1 cHO0 cHO1
  refine (HA1.out A1 c1 F1 d1 _ HN1.out).mono ?_
  rintro e w9 ⟨hb9, vx, rfl, hvx⟩
  have HB9 := Lib.hid (HB8.out.trans (hb9.mono HB8.out.size))
  replace HY := Lib.hid (HY.out.below HY.out.lt hb9)
  replace HO := Lib.hid (HO.out.below HO.out.lt hb9)
  replace HN1 := Lib.hid (HN1.out.below hb9)
  have HX := Lib.hid hvx
  clear hvx
  obtain ⟨Ax, nx, cx, rfl, HX⟩ : ∃ A n c, vx = .slice A n c ∧ Hid (Sl w9 1 (.slice A n c) (namesV L3)) := by obtain ⟨A, n, c, e, hh⟩ := HX.out.shape; exact ⟨A, n, c, e, hh⟩
  clear hb9
  have cHY0 := HY.out.cell 0 _ rfl
  have cHY1 := HY.out.cell 1 _ rfl
  have cHO0 := HO.out.cell 0 _ rfl
  have cHO1 := HO.out.cell 1 _ rfl
  go_wp2_with fail
  clear cHY0 cHY1 cHO0 cHO1
  refine (HA2.out _ HB9.out).mono ?_
  rintro e w10 ⟨hb10, vy, rfl, hvy⟩
  have HB10 := Lib.hid (HB9.out.trans (hb10.mono HB9.out.size))
  replace HY := Lib.hid (HY.out.below HY.out.lt hb10)
  replace HO := Lib.hid (HO.out.below HO.out.lt hb10)
  replace HN1 := Lib.hid (HN1.out.below hb10)
  replace HX := Lib.hid (HX.out.below hb10)
  have HV := Lib.hid hvy
  clear hvy
  obtain ⟨Ay, ny, cy, rfl, HV⟩ : ∃ A n c, vy = .slice A n c ∧ Hid (Sl w10 1 (.slice A n c) (namesV L3)) := by obtain ⟨A, n, c, e, hh⟩ := HV.out.shape; exact ⟨A, n, c, e, hh⟩
  clear hb10
  have cHY0 := HY.out.cell 0 _ rfl
  have cHY1 := HY.out.cell 1 _ rfl
  have cHO0 := HO.out.cell 0 _ rfl
  have cHO1 := HO.out.cell 1 _ rfl
  go_wp2_with fail
  clear cHY0 cHY1 cHO0 cHO1
  refine (HEq.out _ _ _ _ HX.out HV.out).mono ?_
  rintro e w11 ⟨rfl, hb11⟩
  have HB11 := Lib.hid (HB10.out.trans (hb11.mono HB10.out.size))
  replace HY := Lib.hid (HY.out.below HY.out.lt hb11)
  replace HO := Lib.hid (HO.out.below HO.out.lt hb11)
  replace HN1 := Lib.hid (HN1.out.below hb11)
  clear HX HV
  clear hb11
  have cHY0 := HY.out.cell 0 _ rfl
  have cHY1 := HY.out.cell 1 _ rfl
  have cHO0 := HO.out.cell 0 _ rfl
  have cHO1 := HO.out.cell 1 _ rfl
  go_wp2_with fail
  clear cHY0 cHY1 cHO0 cHO1
  refine (HK1.out A1 c1 F1 d1 _ HN1.out).mono ?_
  rintro e w12 ⟨hb12, x1, y1, z1, hp1, rfl⟩
  have HB12 := Lib.hid (HB11.out.trans (hb12.mono HB11.out.size))
  replace HY := Lib.hid (HY.out.below HY.out.lt hb12)
  replace HO := Lib.hid (HO.out.below HO.out.lt hb12)
  replace HN1 := Lib.hid (HN1.out.below hb12)
  have HPk := Lib.hid hp1
  clear hp1
  clear hb12
  have cHY0 := HY.out.cell 0 _ rfl
  have cHY1 := HY.out.cell 1 _ rfl
  have cHO0 := HO.out.cell 0 _ rfl
  have cHO1 := HO.out.cell 1 _ rfl
  go_wp2_with fail
  clear cHY0 cHY1 cHO0 cHO1
  refine (HK2.out _ HB12.out).mono ?_
  rintro e w13 ⟨hb13, x2, y2, z2, hp2, rfl⟩
  have HB13 := Lib.hid (HB12.out.trans (hb13.mono HB12.out.size))
  replace HY := Lib.hid (HY.out.below HY.out.lt hb13)
  replace HO := Lib.hid (HO.out.below HO.out.lt hb13)
  replace HN1 := Lib.hid (HN1.out.below hb13)
  obtain ⟨rfl, rfl, rfl⟩ := HKe.out _ _ _ _ _ _ HPk.out hp2
  clear hp2 HPk
  clear hb13
  have cHY0 := HY.out.cell 0 _ rfl
  have cHY1 := HY.out.cell 1 _ rfl
  have cHO0 := HO.out.cell 0 _ rfl
  have cHO1 := HO.out.cell 1 _ rfl
  have b2 : (x2 == x2) = true := by simp
  have b3 : (y2 == y2) = true := by simp
  have b4 : (z2 == z2) = true := by simp
  go_wp2_with fail
  clear cHY0 cHY1 cHO0 cHO1
  refine (HSa.out A1 c1 F1 d1 _ HN1.out HB13.out).mono ?_
  rintro e w14 ⟨rfl, hb14⟩
  have HB14 := Lib.hid (HB13.out.trans (hb14.mono HB13.out.size))
  replace HY := Lib.hid (HY.out.below HY.out.lt hb14)
  replace HO := Lib.hid (HO.out.below HO.out.lt hb14)
  replace HN1 := Lib.hid (HN1.out.below hb14)
  clear hb14
  have cHY0 := HY.out.cell 0 _ rfl
  have cHY1 := HY.out.cell 1 _ rfl
  have cHO0 := HO.out.cell 0 _ rfl
  have cHO1 := HO.out.cell 1 _ rfl
  go_wp2_with fail
  clear cHY0 cHY1 cHO0 cHO1
  refine (HWk.out _ HB14.out).mono ?_
  rintro e wz ⟨rfl, hbz⟩
  have HBz := Lib.hid (HB14.out.trans (hbz.mono HB14.out.size))
  clear hbz
  go_wp2
  go_ret
  exact ⟨rfl, HBz.out⟩
theorem kinFinds_all (A : Option Addr) (n c : Nat) (F : Option Addr) (m d : Nat) (a b : ByteArray) (ps : List ByteArray) (fs : List Fa) (w : World) (h : NetC w A n c F m d ps fs) (hs : Short ps) (hz : Zw w) (hw : ps.length * 16 ≤ 140737488351232 ∧ fs.length * 48 ≤ 140737488351232) :
    Calls Tryz.prog 6 #[.agg #[.slice A n c, .slice F m d], .string a, .string b] w fun e w' => e = .returned (.bool true) ∧ Below w.heap.size w w' := by
  obtain ⟨e1, e2, _⟩ := h.many
  subst e1
  subst e2
  exact kinFinds_any A c F d a b ps fs w h hs hz hw.1 hw.2
end Go.Proofs.YtdmcopjbckelmaaGreatDoor
