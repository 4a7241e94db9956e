/- PeopleMerge: the walk. Conditions: those stated. -/
import Derived.Test.YtdmcopjbckelmaaGreatDoorZI1
import Derived.Test.YtdmcopjbckelmaaGreatDoorZG3
import Derived.Test.YtdmcopjbckelmaaGreatDoorZH
namespace Go.Proofs.YtdmcopjbckelmaaGreatDoor
open Go Go.RowKit Go.Shelf
attribute [local go_sem] Oper.semAt_some

set_option maxRecDepth 100000 in
set_option maxHeartbeats 8000000 in
theorem mergeLaw_any (A : Option Addr) (c : Nat) (F : Option Addr) (d : Nat) (a b : ByteArray) (ps : List ByteArray) (fs : List Fa) (w : World) (h : NetC w A ps.length c F fs.length d ps fs) (hs : Short ps) (hz : Zw w) (hps : ps.length * 16 ≤ 140737488351232) (hfs : fs.length * 48 ≤ 140737488351232) :
    Calls Tryz.prog 8 #[.agg #[.slice A ps.length c, .slice F fs.length d], .string a, .string b] w fun e w' => e = .returned (.bool true) ∧ Below w.heap.size w w' := by
  have HB0 := Lib.hid (below_alloc' w (.cells #[.slice A ps.length c, .slice F fs.length d] 25))
  have HY := Lib.hid (Cel.new w 25 #[.slice A ps.length c, .slice F fs.length d])
  have HWk := Lib.hid (fun w' hb => works_any w' (hz.below hb))
  have HCo := Lib.hid (fun w' (hw : Below w.heap.size w w') => copy_any A ps.length c F fs.length d ps fs w' (h.below hw) (by omega) (by omega))
  have HMa := Lib.hid (fun A c F d w' (hw : NetC w' A ps.length c F fs.length d ps fs) => merge_any A ps.length c F fs.length d ps fs a b w' hw hs)
  have HRm := Lib.hid (fun w' (hw : Below w.heap.size w w') => rmerge_any A ps.length c F fs.length d ps fs a b w' (h.below hw) hs)
  have HSm := Lib.hid (fun A c F d w' (hw : NetC w' A ps.length c F fs.length d ps fs) => same_any A ps.length c F fs.length d ps fs a b w' hw hs)
  have HRs := Lib.hid (fun w' (hw : Below w.heap.size w w') => rsame_any A ps.length c F fs.length d ps fs a b w' (h.below hw) hs)
  have HSa := Lib.hid (fun A1 c1 F1 d1 w' (hw : NetC w' A1 ps.length c1 F1 fs.length d1 ps fs) (hb : Below w.heap.size w w') => same2_any A1 c1 F1 d1 A c F d ps fs w' hw (h.below hb))
  have HSb := Lib.hid (fun (qs : List ByteArray) (gs : List Fa) A1 n1 c1 F1 m1 d1 A2 n2 c2 F2 m2 d2 w' (hw : NetC w' A1 n1 c1 F1 m1 d1 qs gs) (hw2 : NetC w' A2 n2 c2 F2 m2 d2 qs gs) => show Calls Tryz.prog 14 #[.agg #[.slice A1 n1 c1, .slice F1 m1 d1], .agg #[.slice A2 n2 c2, .slice F2 m2 d2]] w' fun e w'' => e = .returned (.bool true) ∧ Below w'.heap.size w' w'' from by
    obtain ⟨e1, e2, _⟩ := hw.many
    obtain ⟨e3, e4, _⟩ := hw2.many
    subst e1; subst e2; subst e3; subst e4
    exact same2_any A1 c1 F1 d1 A2 c2 F2 d2 qs gs w' hw hw2)
  obtain ⟨⟨qs, gs, er⟩, hmv⟩ : ∃ r, mergeV ps fs a b = r := ⟨_, rfl⟩
  rw [hmv] at HMa HRm
  unfold MergeP at HMa HRm
  simp only at HMa HRm
  obtain ⟨sb, hsb⟩ : ∃ r, (sameV ps fs a b).1 = r := ⟨_, rfl⟩
  obtain ⟨se, hse⟩ : ∃ r, (sameV ps fs a b).2 = r := ⟨_, rfl⟩
  rw [hsb, hse] at HSm HRs
  have b1 : (er == er) = true := by simp
  have b2 : (sb == sb) = true := by simp
  have b3 : (se == se) = true := by simp
  clear h hs hz hps hfs hmv hsb hse
  have cHY0 := HY.out.cell 0 _ rfl
  have cHY1 := HY.out.cell 1 _ rfl
  go_enter Tryz.func8, Tryz.ntmps8
  go_wp2_with fail
  clear cHY0 cHY1
  refine (HCo.out _ HB0.out).mono ?_
  rintro e w1 ⟨hb1, A1, c1, F1, d1, rfl, hn1⟩
  have HB1 := Lib.hid (HB0.out.trans (hb1.mono HB0.out.size))
  replace HY := Lib.hid (HY.out.below HY.out.lt hb1)
  have HN1 := Lib.hid hn1
  clear hn1
  clear hb1
  have cHY0 := HY.out.cell 0 _ rfl
  have cHY1 := HY.out.cell 1 _ rfl
  have l0 := (Cel.new w1 25 #[.slice none 0 0, .slice none 0 0]).cell 0 _ rfl
  have l1 := (Cel.new w1 25 #[.slice none 0 0, .slice none 0 0]).cell 1 _ rfl
  have l2 := (Cel.new w1 25 #[.slice none 0 0, .slice none 0 0]).frozen 0
  have l3 := (Cel.new w1 25 #[.slice none 0 0, .slice none 0 0]).frozen 1
  go_upto_region 2 with fail
  clear l0 l1 l2 l3
  clear cHY0 cHY1
  have HO := Lib.hid (Cel.new w1 25 #[.slice A1 ps.length c1, .slice F1 fs.length d1])
  have hb2 := below_alloc' w1 (.cells #[.slice A1 ps.length c1, .slice F1 fs.length d1] 25)
  obtain ⟨BHO, hBHO⟩ : ∃ B, w1.heap.size = B := ⟨_, rfl⟩
  generalize w1.alloc (.cells #[.slice A1 ps.length c1, .slice F1 fs.length d1] 25) = w2 at *
  have HB2 := Lib.hid (HB1.out.trans (hb2.mono HB1.out.size))
  replace HY := Lib.hid (HY.out.below HY.out.lt hb2)
  replace HN1 := Lib.hid (HN1.out.below hb2)
  rw [hBHO] at HO ⊢
  clear hb2 hBHO
  have cHY0 := HY.out.cell 0 _ rfl
  have cHY1 := HY.out.cell 1 _ rfl
  have cHO0 := HO.out.cell 0 _ rfl
  have cHO1 := HO.out.cell 1 _ rfl
  go_wp2_with fail
  clear cHY0 cHY1 cHO0 cHO1
  refine (HMa.out A1 c1 F1 d1 _ HN1.out).mono ?_
  rintro e w3 ⟨hb3, A2, n2, c2, F2, m2, d2, rfl, hn2⟩
  have HB3 := Lib.hid (HB2.out.trans (hb3.mono HB2.out.size))
  replace HY := Lib.hid (HY.out.below HY.out.lt hb3)
  replace HO := Lib.hid (HO.out.below HO.out.lt hb3)
  replace HN1 := Lib.hid (HN1.out.below hb3)
  have HN2 := Lib.hid hn2
  clear hn2
  clear hb3
  have cHY0 := HY.out.cell 0 _ rfl
  have cHY1 := HY.out.cell 1 _ rfl
  have cHO0 := HO.out.cell 0 _ rfl
  have cHO1 := HO.out.cell 1 _ rfl
  have l0 := (Cel.new w3 25 #[.slice none 0 0, .slice none 0 0]).cell 0 _ rfl
  have l1 := (Cel.new w3 25 #[.slice none 0 0, .slice none 0 0]).cell 1 _ rfl
  have l2 := (Cel.new w3 25 #[.slice none 0 0, .slice none 0 0]).frozen 0
  have l3 := (Cel.new w3 25 #[.slice none 0 0, .slice none 0 0]).frozen 1
  go_upto_region 3 with fail
  clear l0 l1 l2 l3
  clear cHY0 cHY1 cHO0 cHO1
  have HP := Lib.hid (Cel.new w3 25 #[.slice A2 n2 c2, .slice F2 m2 d2])
  have hb4 := below_alloc' w3 (.cells #[.slice A2 n2 c2, .slice F2 m2 d2] 25)
  obtain ⟨BHP, hBHP⟩ : ∃ B, w3.heap.size = B := ⟨_, rfl⟩
  generalize w3.alloc (.cells #[.slice A2 n2 c2, .slice F2 m2 d2] 25) = w4 at *
  have HB4 := Lib.hid (HB3.out.trans (hb4.mono HB3.out.size))
  replace HY := Lib.hid (HY.out.below HY.out.lt hb4)
  replace HO := Lib.hid (HO.out.below HO.out.lt hb4)
  replace HN1 := Lib.hid (HN1.out.below hb4)
  replace HN2 := Lib.hid (HN2.out.below hb4)
  rw [hBHP] at HP ⊢
  clear hb4 hBHP
  have cHY0 := HY.out.cell 0 _ rfl
  have cHY1 := HY.out.cell 1 _ rfl
  have cHO0 := HO.out.cell 0 _ rfl
  have cHO1 := HO.out.cell 1 _ rfl
  have cHP0 := HP.out.cell 0 _ rfl
  have cHP1 := HP.out.cell 1 _ rfl
  go_wp2_with fail
  clear cHY0 cHY1 cHO0 cHO1 cHP0 cHP1
  refine (HRm.out _ HB4.out).mono ?_
  rintro e w5 ⟨hb5, A3, n3, c3, F3, m3, d3, rfl, hn3⟩
  have HB5 := Lib.hid (HB4.out.trans (hb5.mono HB4.out.size))
  replace HY := Lib.hid (HY.out.below HY.out.lt hb5)
  replace HO := Lib.hid (HO.out.below HO.out.lt hb5)
  replace HP := Lib.hid (HP.out.below HP.out.lt hb5)
  replace HN1 := Lib.hid (HN1.out.below hb5)
  replace HN2 := Lib.hid (HN2.out.below hb5)
  have HN3 := Lib.hid hn3
  clear hn3
  clear hb5
  have cHY0 := HY.out.cell 0 _ rfl
  have cHY1 := HY.out.cell 1 _ rfl
  have cHO0 := HO.out.cell 0 _ rfl
  have cHO1 := HO.out.cell 1 _ rfl
  have cHP0 := HP.out.cell 0 _ rfl
  have cHP1 := HP.out.cell 1 _ rfl
  have l0 := (Cel.new w5 25 #[.slice none 0 0, .slice none 0 0]).cell 0 _ rfl
  have l1 := (Cel.new w5 25 #[.slice none 0 0, .slice none 0 0]).cell 1 _ rfl
  have l2 := (Cel.new w5 25 #[.slice none 0 0, .slice none 0 0]).frozen 0
  have l3 := (Cel.new w5 25 #[.slice none 0 0, .slice none 0 0]).frozen 1
  go_upto_region 4 with fail
  clear l0 l1 l2 l3
  clear cHY0 cHY1 cHO0 cHO1 cHP0 cHP1
  have HQ := Lib.hid (Cel.new w5 25 #[.slice A3 n3 c3, .slice F3 m3 d3])
  have hb6 := below_alloc' w5 (.cells #[.slice A3 n3 c3, .slice F3 m3 d3] 25)
  obtain ⟨BHQ, hBHQ⟩ : ∃ B, w5.heap.size = B := ⟨_, rfl⟩
  generalize w5.alloc (.cells #[.slice A3 n3 c3, .slice F3 m3 d3] 25) = w6 at *
  have HB6 := Lib.hid (HB5.out.trans (hb6.mono HB5.out.size))
  replace HY := Lib.hid (HY.out.below HY.out.lt hb6)
  replace HO := Lib.hid (HO.out.below HO.out.lt hb6)
  replace HP := Lib.hid (HP.out.below HP.out.lt hb6)
  replace HN1 := Lib.hid (HN1.out.below hb6)
  replace HN2 := Lib.hid (HN2.out.below hb6)
  replace HN3 := Lib.hid (HN3.out.below hb6)
  rw [hBHQ] at HQ ⊢
  clear hb6 hBHQ
  have cHY0 := HY.out.cell 0 _ rfl
  have cHY1 := HY.out.cell 1 _ rfl
  have cHO0 := HO.out.cell 0 _ rfl
  have cHO1 := HO.out.cell 1 _ rfl
  have cHP0 := HP.out.cell 0 _ rfl
  have cHP1 := HP.out.cell 1 _ rfl
  have cHQ0 := HQ.out.cell 0 _ rfl
  have cHQ1 := HQ.out.cell 1 _ rfl
  go_wp2_with fail
  clear cHY0 cHY1 cHO0 cHO1 cHP0 cHP1 cHQ0 cHQ1
  refine (HSb.out _ _ A2 n2 c2 F2 m2 d2 A3 n3 c3 F3 m3 d3 _ HN2.out HN3.out).mono ?_
  rintro e w7 ⟨rfl, hb7⟩
  have HB7 := Lib.hid (HB6.out.trans (hb7.mono HB6.out.size))
  replace HY := Lib.hid (HY.out.below HY.out.lt hb7)
  replace HO := Lib.hid (HO.out.below HO.out.lt hb7)
  replace HP := Lib.hid (HP.out.below HP.out.lt hb7)
  replace HQ := Lib.hid (HQ.out.below HQ.out.lt hb7)
  replace HN1 := Lib.hid (HN1.out.below hb7)
  clear hb7
  have cHY0 := HY.out.cell 0 _ rfl
  have cHY1 := HY.out.cell 1 _ rfl
  have cHO0 := HO.out.cell 0 _ rfl
  have cHO1 := HO.out.cell 1 _ rfl
  have cHP0 := HP.out.cell 0 _ rfl
  have cHP1 := HP.out.cell 1 _ rfl
  have cHQ0 := HQ.out.cell 0 _ rfl
  have cHQ1 := HQ.out.cell 1 _ rfl
  go_wp2_with fail
  clear cHY0 cHY1 cHO0 cHO1 cHP0 cHP1 cHQ0 cHQ1
  refine (HSm.out A1 c1 F1 d1 _ HN1.out).mono ?_
  rintro e w8 ⟨rfl, hb8⟩
  have HB8 := Lib.hid (HB7.out.trans (hb8.mono HB7.out.size))
  replace HY := Lib.hid (HY.out.below HY.out.lt hb8)
  replace HO := Lib.hid (HO.out.below HO.out.lt hb8)
  replace HP := Lib.hid (HP.out.below HP.out.lt hb8)
  replace HQ := Lib.hid (HQ.out.below HQ.out.lt hb8)
  replace HN1 := Lib.hid (HN1.out.below hb8)
  clear hb8
  have cHY0 := HY.out.cell 0 _ rfl
  have cHY1 := HY.out.cell 1 _ rfl
  have cHO0 := HO.out.cell 0 _ rfl
  have cHO1 := HO.out.cell 1 _ rfl
  have cHP0 := HP.out.cell 0 _ rfl
  have cHP1 := HP.out.cell 1 _ rfl
  have cHQ0 := HQ.out.cell 0 _ rfl
  have cHQ1 := HQ.out.cell 1 _ rfl
  go_wp2_with fail
  clear cHY0 cHY1 cHO0 cHO1 cHP0 cHP1 cHQ0 cHQ1
  refine (HRs.out _ HB8.out).mono ?_
  rintro e w9 ⟨rfl, hb9⟩
  have HB9 := Lib.hid (HB8.out.trans (hb9.mono HB8.out.size))
  replace HY := Lib.hid (HY.out.below HY.out.lt hb9)
  replace HO := Lib.hid (HO.out.below HO.out.lt hb9)
  replace HP := Lib.hid (HP.out.below HP.out.lt hb9)
  replace HQ := Lib.hid (HQ.out.below HQ.out.lt hb9)
  replace HN1 := Lib.hid (HN1.out.below hb9)
  clear hb9
  have cHY0 := HY.out.cell 0 _ rfl
  have cHY1 := HY.out.cell 1 _ rfl
  have cHO0 := HO.out.cell 0 _ rfl
  have cHO1 := HO.out.cell 1 _ rfl
  have cHP0 := HP.out.cell 0 _ rfl
  have cHP1 := HP.out.cell 1 _ rfl
  have cHQ0 := HQ.out.cell 0 _ rfl
  have cHQ1 := HQ.out.cell 1 _ rfl
  go_wp2_with fail
  clear cHY0 cHY1 cHO0 cHO1 cHP0 cHP1 cHQ0 cHQ1
  refine (HSa.out A1 c1 F1 d1 _ HN1.out HB9.out).mono ?_
  rintro e w10 ⟨rfl, hb10⟩
  have HB10 := Lib.hid (HB9.out.trans (hb10.mono HB9.out.size))
  replace HY := Lib.hid (HY.out.below HY.out.lt hb10)
  replace HO := Lib.hid (HO.out.below HO.out.lt hb10)
  replace HP := Lib.hid (HP.out.below HP.out.lt hb10)
  replace HQ := Lib.hid (HQ.out.below HQ.out.lt hb10)
  replace HN1 := Lib.hid (HN1.out.below hb10)
  clear hb10
  have cHY0 := HY.out.cell 0 _ rfl
  have cHY1 := HY.out.cell 1 _ rfl
  have cHO0 := HO.out.cell 0 _ rfl
  have cHO1 := HO.out.cell 1 _ rfl
  have cHP0 := HP.out.cell 0 _ rfl
  have cHP1 := HP.out.cell 1 _ rfl
  have cHQ0 := HQ.out.cell 0 _ rfl
  have cHQ1 := HQ.out.cell 1 _ rfl
  go_wp2_with fail
  clear cHY0 cHY1 cHO0 cHO1 cHP0 cHP1 cHQ0 cHQ1
  refine (HWk.out _ HB10.out).mono ?_
  rintro e wz ⟨rfl, hbz⟩
  have HBz := Lib.hid (HB10.out.trans (hbz.mono HB10.out.size))
  clear hbz
  go_wp2
  go_ret
  exact ⟨rfl, HBz.out⟩
theorem mergeLaw_all (A : Option Addr) (n c : Nat) (F : Option Addr) (m d : Nat) (a b : ByteArray) (ps : List ByteArray) (fs : List Fa) (w : World) (h : NetC w A n c F m d ps fs) (hs : Short ps) (hz : Zw w) (hw : ps.length * 16 ≤ 140737488351232 ∧ fs.length * 48 ≤ 140737488351232) :
    Calls Tryz.prog 8 #[.agg #[.slice A n c, .slice F m d], .string a, .string b] w fun e w' => e = .returned (.bool true) ∧ Below w.heap.size w w' := by
  obtain ⟨e1, e2, _⟩ := h.many
  subst e1
  subst e2
  exact mergeLaw_any A c F d a b ps fs w h hs hz hw.1 hw.2
end Go.Proofs.YtdmcopjbckelmaaGreatDoor
