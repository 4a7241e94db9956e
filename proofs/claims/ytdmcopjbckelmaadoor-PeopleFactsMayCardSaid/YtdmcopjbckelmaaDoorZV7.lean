/- PeopleFactsMay: the walk. Conditions: those stated. -/
import Derived.Test.YtdmcopjbckelmaaDoorZG3
import Derived.Test.YtdmcopjbckelmaaDoorZG8
import Derived.Test.YtdmcopjbckelmaaDoorZH
namespace Go.Proofs.YtdmcopjbckelmaaDoor
open Go Go.RowKit Go.Shelf
attribute [local go_sem] Oper.semAt_some

set_option maxRecDepth 100000 in
set_option maxHeartbeats 8000000 in
theorem factsMay_any (A : Option Addr) (c : Nat) (F : Option Addr) (d : Nat) (k : Int) (a b : ByteArray) (t : Int) (ps : List ByteArray) (fs : List Fa) (w : World) (h : NetC w A ps.length c F fs.length d ps fs) (hs : Short ps) (hz : Zw w) (hps : ps.length * 16 ≤ 140737488351232) (hfs : fs.length * 48 ≤ 140737488351232) :
    Calls Tryd.prog 4 #[.agg #[.slice A ps.length c, .slice F fs.length d], .agg #[.int .i64 k, .string a, .string b, .int .i64 t]] w fun e w' => e = .returned (.bool true) ∧ Below w.heap.size w w' := by
  have hb0 := (below_alloc' w (.cells #[.slice A ps.length c, .slice F fs.length d] 25)).alloc (by simp) (.cells #[.int .i64 k, .string a, .string b, .int .i64 t] 40)
  have y0 := (Cel.new w 25 #[.slice A ps.length c, .slice F fs.length d]).alloc (.cells #[.int .i64 k, .string a, .string b, .int .i64 t] 40)
  have y1 := Cel.new (w.alloc (.cells #[.slice A ps.length c, .slice F fs.length d] 25)) 40 #[.int .i64 k, .string a, .string b, .int .i64 t]
  rw [World.size_alloc] at y1
  have HB0 := Lib.hid hb0
  have HY := Lib.hid y0
  have HX := Lib.hid y1
  have HN := Lib.hid h
  have HWk := Lib.hid (fun w' hb => works_any w' (hz.below hb))
  have HCo := Lib.hid (fun w' (hw : Below w.heap.size w w') => copy_any A ps.length c F fs.length d ps fs w' (h.below hw) (by omega) (by omega))
  have HMa := Lib.hid (fun A c F d w' (hw : NetC w' A ps.length c F fs.length d ps fs) => may_any A ps.length c F fs.length d ps fs ⟨k, a, b, t⟩ w' hw hs)
  have HMu := Lib.hid (fun A c F d w' (hw : NetC w' A ps.length c F fs.length d ps fs) => pMust_any A ps.length c F fs.length d ps fs ⟨k, a, b, t⟩ w' hw hs)
  have HRa := Lib.hid (fun w' (hw : Below w.heap.size w w') => rmay_any A ps.length c F fs.length d ps fs ⟨k, a, b, t⟩ w' (h.below hw) hs)
  have HRu := Lib.hid (fun w' (hw : Below w.heap.size w w') => rmust_any A ps.length c F fs.length d ps fs ⟨k, a, b, t⟩ w' (h.below hw) hs)
  have HSa := Lib.hid (fun A1 c1 F1 d1 w' (hw : NetC w' A1 ps.length c1 F1 fs.length d1 ps fs) (hb : Below w.heap.size w w') => same2_any A1 c1 F1 d1 A c F d ps fs w' hw (h.below hb))
  unfold faA at HMa HMu HRa HRu
  simp only at HMa HMu HRa HRu
  generalize mayB ps fs ⟨k, a, b, t⟩ = mb at *
  generalize factE ps fs ⟨k, a, b, t⟩ = fe at *
  generalize mustV ps fs ⟨k, a, b, t⟩ = mv at *
  generalize mustE ps fs ⟨k, a, b, t⟩ = me at *
  have b1 : (mb == mb) = true := by simp
  have b2 : (fe == fe) = true := by simp
  have b3 : (mv == mv) = true := by simp
  have b4 : (me == me) = true := by simp
  clear h hs hz hb0 y0 y1 hps hfs
  have cHY0 := HY.out.cell 0 _ rfl
  have cHY1 := HY.out.cell 1 _ rfl
  have cHX0 := HX.out.cell 0 _ rfl
  have cHX1 := HX.out.cell 1 _ rfl
  have cHX2 := HX.out.cell 2 _ rfl
  have cHX3 := HX.out.cell 3 _ rfl
  go_enter Tryd.func4, Tryd.ntmps4
  go_wp2_with fail
  clear cHY0 cHY1 cHX0 cHX1 cHX2 cHX3
  refine (HCo.out _ HB0.out).mono ?_
  rintro e w1 ⟨hb1, A1, c1, F1, d1, rfl, hn1⟩
  have HB1 := Lib.hid (HB0.out.trans (hb1.mono HB0.out.size))
  replace HY := Lib.hid (HY.out.below HY.out.lt hb1)
  replace HX := Lib.hid (HX.out.below HX.out.lt hb1)
  have HN1 := Lib.hid hn1
  clear hb1 hn1
  have cHY0 := HY.out.cell 0 _ rfl
  have cHY1 := HY.out.cell 1 _ rfl
  have cHX0 := HX.out.cell 0 _ rfl
  have cHX1 := HX.out.cell 1 _ rfl
  have cHX2 := HX.out.cell 2 _ rfl
  have cHX3 := HX.out.cell 3 _ rfl
  have l0 := (Cel.new w1 25 #[.slice none 0 0, .slice none 0 0]).cell 0 _ rfl
  have l1 := (Cel.new w1 25 #[.slice none 0 0, .slice none 0 0]).cell 1 _ rfl
  have l2 := (Cel.new w1 25 #[.slice none 0 0, .slice none 0 0]).frozen 0
  have l3 := (Cel.new w1 25 #[.slice none 0 0, .slice none 0 0]).frozen 1
  go_upto_region 2 with fail
  clear l0 l1 l2 l3
  clear cHY0 cHY1 cHX0 cHX1 cHX2 cHX3
  have HO := Lib.hid (Cel.new w1 25 #[.slice A1 ps.length c1, .slice F1 fs.length d1])
  have hb2 := below_alloc' w1 (.cells #[.slice A1 ps.length c1, .slice F1 fs.length d1] 25)
  generalize w1.alloc (.cells #[.slice A1 ps.length c1, .slice F1 fs.length d1] 25) = w2 at *
  obtain ⟨Bo, hBo⟩ : ∃ Bo, w1.heap.size = Bo := ⟨_, rfl⟩
  have HB2 := Lib.hid (HB1.out.trans (hb2.mono HB1.out.size))
  replace HY := Lib.hid (HY.out.below HY.out.lt hb2)
  replace HX := Lib.hid (HX.out.below HX.out.lt hb2)
  have HNo := Lib.hid (HN1.out.below hb2)
  rw [hBo] at HO ⊢
  clear hb2 HN1 hBo
  have cHY0 := HY.out.cell 0 _ rfl
  have cHY1 := HY.out.cell 1 _ rfl
  have cHX0 := HX.out.cell 0 _ rfl
  have cHX1 := HX.out.cell 1 _ rfl
  have cHX2 := HX.out.cell 2 _ rfl
  have cHX3 := HX.out.cell 3 _ rfl
  have cHO0 := HO.out.cell 0 _ rfl
  have cHO1 := HO.out.cell 1 _ rfl
  go_wp2_with fail
  clear cHY0 cHY1 cHX0 cHX1 cHX2 cHX3 cHO0 cHO1
  refine (HMa.out A1 c1 F1 d1 _ HNo.out).mono ?_
  rintro e w3 ⟨rfl, hb3⟩
  have HB3 := Lib.hid (HB2.out.trans (hb3.mono HB2.out.size))
  replace HY := Lib.hid (HY.out.below HY.out.lt hb3)
  replace HX := Lib.hid (HX.out.below HX.out.lt hb3)
  replace HO := Lib.hid (HO.out.below HO.out.lt hb3)
  replace HNo := Lib.hid (HNo.out.below hb3)
  clear hb3
  have cHY0 := HY.out.cell 0 _ rfl
  have cHY1 := HY.out.cell 1 _ rfl
  have cHX0 := HX.out.cell 0 _ rfl
  have cHX1 := HX.out.cell 1 _ rfl
  have cHX2 := HX.out.cell 2 _ rfl
  have cHX3 := HX.out.cell 3 _ rfl
  have cHO0 := HO.out.cell 0 _ rfl
  have cHO1 := HO.out.cell 1 _ rfl
  go_wp2_with fail
  clear cHY0 cHY1 cHX0 cHX1 cHX2 cHX3 cHO0 cHO1
  refine (HRa.out _ HB3.out).mono ?_
  rintro e w4 ⟨rfl, hb4⟩
  have HB4 := Lib.hid (HB3.out.trans (hb4.mono HB3.out.size))
  replace HY := Lib.hid (HY.out.below HY.out.lt hb4)
  replace HX := Lib.hid (HX.out.below HX.out.lt hb4)
  replace HO := Lib.hid (HO.out.below HO.out.lt hb4)
  replace HNo := Lib.hid (HNo.out.below hb4)
  clear hb4
  have cHY0 := HY.out.cell 0 _ rfl
  have cHY1 := HY.out.cell 1 _ rfl
  have cHX0 := HX.out.cell 0 _ rfl
  have cHX1 := HX.out.cell 1 _ rfl
  have cHX2 := HX.out.cell 2 _ rfl
  have cHX3 := HX.out.cell 3 _ rfl
  have cHO0 := HO.out.cell 0 _ rfl
  have cHO1 := HO.out.cell 1 _ rfl
  go_wp2_with fail
  clear cHY0 cHY1 cHX0 cHX1 cHX2 cHX3 cHO0 cHO1
  refine (HMu.out A1 c1 F1 d1 _ HNo.out).mono ?_
  rintro e w5 ⟨rfl, hb5⟩
  have HB5 := Lib.hid (HB4.out.trans (hb5.mono HB4.out.size))
  replace HY := Lib.hid (HY.out.below HY.out.lt hb5)
  replace HX := Lib.hid (HX.out.below HX.out.lt hb5)
  replace HO := Lib.hid (HO.out.below HO.out.lt hb5)
  replace HNo := Lib.hid (HNo.out.below hb5)
  clear hb5
  have cHY0 := HY.out.cell 0 _ rfl
  have cHY1 := HY.out.cell 1 _ rfl
  have cHX0 := HX.out.cell 0 _ rfl
  have cHX1 := HX.out.cell 1 _ rfl
  have cHX2 := HX.out.cell 2 _ rfl
  have cHX3 := HX.out.cell 3 _ rfl
  have cHO0 := HO.out.cell 0 _ rfl
  have cHO1 := HO.out.cell 1 _ rfl
  go_wp2_with fail
  clear cHY0 cHY1 cHX0 cHX1 cHX2 cHX3 cHO0 cHO1
  refine (HRu.out _ HB5.out).mono ?_
  rintro e w6 ⟨rfl, hb6⟩
  have HB6 := Lib.hid (HB5.out.trans (hb6.mono HB5.out.size))
  replace HY := Lib.hid (HY.out.below HY.out.lt hb6)
  replace HX := Lib.hid (HX.out.below HX.out.lt hb6)
  replace HO := Lib.hid (HO.out.below HO.out.lt hb6)
  replace HNo := Lib.hid (HNo.out.below hb6)
  clear hb6
  have cHY0 := HY.out.cell 0 _ rfl
  have cHY1 := HY.out.cell 1 _ rfl
  have cHX0 := HX.out.cell 0 _ rfl
  have cHX1 := HX.out.cell 1 _ rfl
  have cHX2 := HX.out.cell 2 _ rfl
  have cHX3 := HX.out.cell 3 _ rfl
  have cHO0 := HO.out.cell 0 _ rfl
  have cHO1 := HO.out.cell 1 _ rfl
  go_wp2_with fail
  clear cHY0 cHY1 cHX0 cHX1 cHX2 cHX3 cHO0 cHO1
  refine (HSa.out A1 c1 F1 d1 _ HNo.out HB6.out).mono ?_
  rintro e w7 ⟨rfl, hb7⟩
  have HB7 := Lib.hid (HB6.out.trans (hb7.mono HB6.out.size))
  replace HY := Lib.hid (HY.out.below HY.out.lt hb7)
  replace HX := Lib.hid (HX.out.below HX.out.lt hb7)
  replace HO := Lib.hid (HO.out.below HO.out.lt hb7)
  replace HNo := Lib.hid (HNo.out.below hb7)
  clear hb7
  have cHY0 := HY.out.cell 0 _ rfl
  have cHY1 := HY.out.cell 1 _ rfl
  have cHX0 := HX.out.cell 0 _ rfl
  have cHX1 := HX.out.cell 1 _ rfl
  have cHX2 := HX.out.cell 2 _ rfl
  have cHX3 := HX.out.cell 3 _ rfl
  have cHO0 := HO.out.cell 0 _ rfl
  have cHO1 := HO.out.cell 1 _ rfl
  go_wp2_with fail
  clear cHY0 cHY1 cHX0 cHX1 cHX2 cHX3 cHO0 cHO1
  refine (HWk.out _ HB7.out).mono ?_
  rintro e wz ⟨rfl, hbz⟩
  have HBz := Lib.hid (HB7.out.trans (hbz.mono HB7.out.size))
  clear hbz
  go_wp2
  go_ret
  exact ⟨rfl, HBz.out⟩
theorem factsMay_all (A : Option Addr) (n c : Nat) (F : Option Addr) (m d : Nat) (f : Fa) (ps : List ByteArray) (fs : List Fa) (w : World) (h : NetC w A n c F m d ps fs) (hs : Short ps) (hz : Zw w) (hw : ps.length * 16 ≤ 140737488351232 ∧ fs.length * 48 ≤ 140737488351232) :
    Calls Tryd.prog 4 #[.agg #[.slice A n c, .slice F m d], faA f] w fun e w' => e = .returned (.bool true) ∧ Below w.heap.size w w' := by
  obtain ⟨e1, e2, _⟩ := h.many
  subst e1
  subst e2
  obtain ⟨k, a, b, t⟩ := f
  exact factsMay_any A c F d k a b t ps fs w h hs hz hw.1 hw.2
end Go.Proofs.YtdmcopjbckelmaaDoor
