/- PeopleHeirsShare: the walk. Conditions: those stated. -/
import Derived.Test.YtdmcopjbckelmaaGreatDoorZU18
import Derived.Test.YtdmcopjbckelmaaGreatDoorZG3
import Derived.Test.YtdmcopjbckelmaaGreatDoorZH
import Derived.BigQuiet
namespace Go.Proofs.YtdmcopjbckelmaaGreatDoor
open Go Go.RowKit Go.Shelf
attribute [local go_sem] Oper.semAt_some

theorem heirs_shape (ps : List ByteArray) (fs : List Fa) (a : ByteArray) : ∃ fi p ch er, heirsV ps fs a = (sharesV fi p ch, er) := by
  unfold heirsV
  split
  · exact ⟨⟨#[]⟩, 0, [], _, rfl⟩
  · cases solveF ps fs with
    | none => exact ⟨⟨#[]⟩, 0, [], _, rfl⟩
    | some D => exact ⟨_, _, _, _, rfl⟩
/-- The cells of shares. -/
theorem share_at {w : World} {v : Value} {fi : ByteArray} {p : Nat} {ch : List ByteArray} (h : Sl w 3 v (sharesV fi p ch)) : ∃ A c, v = .slice A ch.length c ∧ ch.length ≤ c ∧ (c : Int) ≤ 9223372036854775807 ∧ (0 < ch.length → ∃ b o, A = some ⟨b, o, none⟩ ∧ b < w.heap.size ∧ ∀ (k : Nat) (hk : k < ch.length),
    w.cell? ⟨b, o + k * 3, none⟩ = some (.string ch[k]) ∧ w.cell? ⟨b, o + k * 3 + 1, none⟩ = some (.int .i64 (shareR fi p ch[k]).n) ∧ w.cell? ⟨b, o + k * 3 + 2, none⟩ = some (.int .i64 (shareR fi p ch[k]).d)) := by
  obtain ⟨A, n, c, rfl, hl, hc, hm, hcl⟩ := h.open2 (by decide)
  rw [sharesV_length] at hl
  obtain rfl : n = ch.length := by omega
  refine ⟨A, c, rfl, hc, hm, fun hn => ?_⟩
  obtain ⟨b, o, rfl, hb, hce⟩ := hcl hn
  refine ⟨b, o, rfl, hb, fun k hk => ?_⟩
  obtain ⟨g0, g1, g2⟩ := sharesV_get (fi := fi) (p := p) hk
  exact ⟨hce _ _ g0, hce _ _ g1, hce _ _ g2⟩
set_option maxRecDepth 100000 in
set_option maxHeartbeats 8000000 in
theorem heirsShare_any (A : Option Addr) (c : Nat) (F : Option Addr) (d : Nat) (a : ByteArray) (ps : List ByteArray) (fs : List Fa) (w : World) (h : NetC w A ps.length c F fs.length d ps fs) (hs : Short ps) (hz : Zw w) (hps : ps.length * 16 ≤ 140737488351232) (hfs : fs.length * 48 ≤ 140737488351232) :
    Calls Tryz.prog 3 #[.agg #[.slice A ps.length c, .slice F fs.length d], .string a] w fun e w' => e = .returned (.bool true) ∧ Below w.heap.size w w' := by
  have HB0 := Lib.hid (below_alloc' w (.cells #[.slice A ps.length c, .slice F fs.length d] 25))
  have HY := Lib.hid (Cel.new w 25 #[.slice A ps.length c, .slice F fs.length d])
  have HWk := Lib.hid (fun w' hb => works_any w' (hz.below hb))
  have HCo := Lib.hid (fun w' (hw : Below w.heap.size w w') => copy_any A ps.length c F fs.length d ps fs w' (h.below hw) (by omega) (by omega))
  have HH1 := Lib.hid (fun A c F d w' (hw : NetC w' A ps.length c F fs.length d ps fs) (hb : Below w.heap.size w w') => heirs_any A ps.length c F fs.length d ps fs a w' hw (hz.below hb) hs)
  have HH2 := Lib.hid (fun w' (hw : Below w.heap.size w w') => rheirs_any A c F d ps fs a w' (h.below hw) hs)
  have HSa := Lib.hid (fun A1 c1 F1 d1 w' (hw : NetC w' A1 ps.length c1 F1 fs.length d1 ps fs) (hb : Below w.heap.size w w') => same2_any A1 c1 F1 d1 A c F d ps fs w' hw (h.below hb))
  obtain ⟨fi, p, ch, er, hv⟩ := heirs_shape ps fs a
  unfold HeirsP at HH1 HH2
  rw [hv] at HH1 HH2
  simp only at HH1 HH2
  have b1 : (er == er) = true := by simp
  have b2 : ((ch.length : Int) == (ch.length : Int)) = true := by simp
  clear h hs hz hps hfs hv
  have cHY0 := HY.out.cell 0 _ rfl
  have cHY1 := HY.out.cell 1 _ rfl
  go_enter Tryz.func3, Tryz.ntmps3
  go_wp2_with fail
  clear cHY0 cHY1
  refine (HCo.out _ HB0.out).mono ?_
  rintro e w1 ⟨hb1, A1, c1, F1, d1, rfl, hn1⟩
  have HB1 := Lib.hid (HB0.out.trans (hb1.mono HB0.out.size))
  replace HY := Lib.hid (HY.out.below HY.out.lt hb1)
  have HN1 := Lib.hid hn1
  clear hn1
  clear hb1
  have cHY0 := HY.out.cell 0 _ rfl
  have cHY1 := HY.out.cell 1 _ rfl
  have l0 := (Cel.new w1 25 #[.slice none 0 0, .slice none 0 0]).cell 0 _ rfl
  have l1 := (Cel.new w1 25 #[.slice none 0 0, .slice none 0 0]).cell 1 _ rfl
  have l2 := (Cel.new w1 25 #[.slice none 0 0, .slice none 0 0]).frozen 0
  have l3 := (Cel.new w1 25 #[.slice none 0 0, .slice none 0 0]).frozen 1
  go_upto_region 2 with fail
  clear l0 l1 l2 l3
  clear cHY0 cHY1
  have HO := Lib.hid (Cel.new w1 25 #[.slice A1 ps.length c1, .slice F1 fs.length d1])
  have hb2 := below_alloc' w1 (.cells #[.slice A1 ps.length c1, .slice F1 fs.length d1] 25)
  obtain ⟨BHO, hBHO⟩ : ∃ B, w1.heap.size = B := ⟨_, rfl⟩
  generalize w1.alloc (.cells #[.slice A1 ps.length c1, .slice F1 fs.length d1] 25) = w2 at *
  have HB2 := Lib.hid (HB1.out.trans (hb2.mono HB1.out.size))
  replace HY := Lib.hid (HY.out.below HY.out.lt hb2)
  replace HN1 := Lib.hid (HN1.out.below hb2)
  rw [hBHO] at HO ⊢
  clear hb2 hBHO
  have cHY0 := HY.out.cell 0 _ rfl
  have cHY1 := HY.out.cell 1 _ rfl
  have cHO0 := HO.out.cell 0 _ rfl
  have cHO1 := HO.out.cell 1 _ rfl
  go_wp2_with fail
  clear cHY0 cHY1 cHO0 cHO1
  refine (HH1.out A1 c1 F1 d1 _ HN1.out HB2.out).mono ?_
  rintro e w3 ⟨hb3, vx, rfl, hx⟩
  have HB3 := Lib.hid (HB2.out.trans (hb3.mono HB2.out.size))
  replace HY := Lib.hid (HY.out.below HY.out.lt hb3)
  replace HO := Lib.hid (HO.out.below HO.out.lt hb3)
  replace HN1 := Lib.hid (HN1.out.below hb3)
  obtain ⟨Ax, cx, rfl, hx1, hx2, _⟩ := share_at hx
  have HX := Lib.hid hx
  clear hx
  clear hb3
  have cHY0 := HY.out.cell 0 _ rfl
  have cHY1 := HY.out.cell 1 _ rfl
  have cHO0 := HO.out.cell 0 _ rfl
  have cHO1 := HO.out.cell 1 _ rfl
  go_wp2_with fail
  clear cHY0 cHY1 cHO0 cHO1
  refine (HH2.out _ HB3.out).mono ?_
  rintro e w4 ⟨hb4, vy, rfl, hy⟩
  have HB4 := Lib.hid (HB3.out.trans (hb4.mono HB3.out.size))
  replace HY := Lib.hid (HY.out.below HY.out.lt hb4)
  replace HO := Lib.hid (HO.out.below HO.out.lt hb4)
  replace HN1 := Lib.hid (HN1.out.below hb4)
  replace HX := Lib.hid (HX.out.below hb4)
  obtain ⟨Ay, cy, rfl, hy1, hy2, _⟩ := share_at hy
  have HV := Lib.hid hy
  clear hy
  clear hb4
  have cHY0 := HY.out.cell 0 _ rfl
  have cHY1 := HY.out.cell 1 _ rfl
  have cHO0 := HO.out.cell 0 _ rfl
  have cHO1 := HO.out.cell 1 _ rfl
  clear cHY0 cHY1 cHO0 cHO1
  obtain ⟨_, _, e1, _, _, hcx⟩ := share_at HX.out
  cases e1
  obtain ⟨_, _, e1, _, _, hcy⟩ := share_at HV.out
  cases e1
  have HCx := Lib.hid hcx
  have HCy := Lib.hid hcy
  have HU0 := Lib.hid (Below.refl w4.heap.size w4)
  clear hcx hcy HX HV
  go_wp2
  go_loopw [10] (fun ti wr => ∃ j : Nat, ti = .int .i64 j ∧ j ≤ ch.length ∧ Hid (Below w4.heap.size w4 wr)) (fun ti _ => ch.length - (intOf ti).toNat)
  case atStart => exact ⟨0, rfl, by omega, HU0.out⟩
  case round =>
    clear HU0
    obtain ⟨j, rfl, hj, HU⟩ := hrel
    by_cases hlt : j < ch.length
    · have hji : (j : Int) < (ch.length : Int) := by omega
      have hj0 : (0 : Int) ≤ (j : Int) := by omega
      obtain ⟨bx, ox, rfl, _, hcx⟩ := HCx.out (by omega)
      obtain ⟨by', oy, rfl, _, hcy⟩ := HCy.out (by omega)
      obtain ⟨x0, x1, x2⟩ := hcx j hlt
      obtain ⟨y0, y1, y2⟩ := hcy j hlt
      replace x0 := below_cell HU.out x0
      replace x1 := below_cell HU.out x1
      replace x2 := below_cell HU.out x2
      replace y0 := below_cell HU.out y0
      replace y1 := below_cell HU.out y1
      replace y2 := below_cell HU.out y2
      clear hcx hcy
      generalize shareR fi p ch[j] = rr at *
      generalize ch[j] = s at *
      obtain ⟨rn, rd, re⟩ := rr
      simp only at x1 x2 y1 y2
      go_upto_region 9 with fail
      go_quiet (fail)
      go_wp2
      exact ⟨⟨j + 1, by go_num, by omega, below_drewN HU.out _⟩, by simp [intOf]; omega⟩
    · have HBr := Lib.hid (HB4.out.trans (HU.out.mono HB4.out.size))
      replace HN1 := Lib.hid (HN1.out.below HU.out)
      replace HY := Lib.hid (HY.out.below HY.out.lt HU.out)
      replace HO := Lib.hid (HO.out.below HO.out.lt HU.out)
      clear HCx HCy HU HB4
      generalize wr = w4 at *
      have HB4 := HBr
      clear HBr
      have cHY0 := HY.out.cell 0 _ rfl
      have cHY1 := HY.out.cell 1 _ rfl
      have cHO0 := HO.out.cell 0 _ rfl
      have cHO1 := HO.out.cell 1 _ rfl
      go_wp2_with fail
      clear cHY0 cHY1 cHO0 cHO1
      refine (HSa.out A1 c1 F1 d1 _ HN1.out HB4.out).mono ?_
      rintro e w5 ⟨rfl, hb5⟩
      have HB5 := Lib.hid (HB4.out.trans (hb5.mono HB4.out.size))
      replace HY := Lib.hid (HY.out.below HY.out.lt hb5)
      replace HO := Lib.hid (HO.out.below HO.out.lt hb5)
      clear hb5
      have cHY0 := HY.out.cell 0 _ rfl
      have cHY1 := HY.out.cell 1 _ rfl
      have cHO0 := HO.out.cell 0 _ rfl
      have cHO1 := HO.out.cell 1 _ rfl
      go_wp2_with fail
      clear cHY0 cHY1 cHO0 cHO1
      refine (HWk.out _ HB5.out).mono ?_
      rintro e wz ⟨rfl, hbz⟩
      have HBz := Lib.hid (HB5.out.trans (hbz.mono HB5.out.size))
      clear hbz
      go_wp2
      go_ret
      exact ⟨rfl, HBz.out⟩
theorem heirsShare_all (A : Option Addr) (n c : Nat) (F : Option Addr) (m d : Nat) (a : ByteArray) (ps : List ByteArray) (fs : List Fa) (w : World) (h : NetC w A n c F m d ps fs) (hs : Short ps) (hz : Zw w) (hw : ps.length * 16 ≤ 140737488351232 ∧ fs.length * 48 ≤ 140737488351232) :
    Calls Tryz.prog 3 #[.agg #[.slice A n c, .slice F m d], .string a] w fun e w' => e = .returned (.bool true) ∧ Below w.heap.size w w' := by
  obtain ⟨e1, e2, _⟩ := h.many
  subst e1
  subst e2
  exact heirsShare_any A c F d a ps fs w h hs hz hw.1 hw.2
end Go.Proofs.YtdmcopjbckelmaaGreatDoor
