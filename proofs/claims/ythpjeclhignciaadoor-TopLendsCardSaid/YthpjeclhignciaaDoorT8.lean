/- Walks of the package date: checks, Check, At, Number, Between, Scheme. Conditions: those stated. -/
import Derived.Test.YthpjeclhignciaaDoorT7
namespace Go.Proofs.YthpjeclhignciaaDoor
open Go Go.RowKit Go.Shelf
attribute [local go_sem] Oper.semAt_some

/-- A calendar in memory whose numbers and strings are in range. -/
structure CalW (w : World) (v : Value) (ks : List ByteArray) (ys : List Yr) : Prop where
  cal : CalV w v ks ys
  kb : ∀ s ∈ ks, (s.size : Int) ≤ 9223372036854775807
  yb : ∀ y ∈ ys, YB y
theorem CalW.below {w w' : World} {v : Value} {ks : List ByteArray} {ys : List Yr} (h : CalW w v ks ys) (hb : Below w.heap.size w w') : CalW w' v ks ys := ⟨h.cal.below hb, h.kb, h.yb⟩
theorem CalW.valid {w : World} {v : Value} {ks : List ByteArray} {ys : List Yr} (h : CalW w v ks ys) :
    Calls Tryd.prog 24 #[v] w fun e w' => e = .returned (.bool (calB ks ys)) ∧ Below w.heap.size w w' := valid_any v ks ys w h.cal h.kb h.yb
theorem CalW.shape {w : World} {v : Value} {ks : List ByteArray} {ys : List Yr} (h : CalW w v ks ys) : ∃ x y, v = .agg #[x, y] := by
  obtain ⟨Ak, nk, ck, Ay, ny, cy, rfl, _⟩ := h.cal
  exact ⟨_, _, rfl⟩
def chF (ks : List ByteArray) (ys : List Yr) (l : List Dt) : Int := if calB ks ys then (if l.all (inB ys) then 0 else 71) else 70

set_option maxHeartbeats 1000000 in
theorem check_any' (v : Value) (ks : List ByteArray) (ys : List Yr) (w : World) (hv : CalW w v ks ys) :
    Calls Tryd.prog 28 #[v] w fun e w' => e = .returned (.int .i64 (chF ks ys [])) ∧ Below w.heap.size w w' := by
  obtain ⟨x, y, rfl⟩ := hv.shape
  have hB0 := below_alloc' w (.cells #[x, y] 25)
  have hk := (hv.below hB0).valid
  cases hc : calB ks ys with
  | true =>
    rw [hc] at hk
    have HF := Lib.hid (show chF ks ys [] = 0 by unfold chF; rw [hc]; rfl)
    have HK := Lib.hid hk
    clear hk hc hv
    go_enter Tryd.func28, Tryd.ntmps28
    go_wp2_with (go_at_call 24; refine HK.out.mono ?_; rintro e w' ⟨rfl, hb⟩)
    go_ret
    exact ⟨by rw [HF.out]; rfl, below_then hB0 hb⟩
  | false =>
    rw [hc] at hk
    have HF := Lib.hid (show chF ks ys [] = 70 by unfold chF; rw [hc]; rfl)
    have HK := Lib.hid hk
    clear hk hc hv
    go_enter Tryd.func28, Tryd.ntmps28
    go_wp2_with (go_at_call 24; refine HK.out.mono ?_; rintro e w' ⟨rfl, hb⟩)
    go_ret
    exact ⟨by rw [HF.out]; rfl, below_then hB0 hb⟩

set_option maxRecDepth 100000 in
set_option maxHeartbeats 2000000 in
theorem checks_any (v : Value) (ks : List ByteArray) (ys : List Yr) (dv : Value) (l : List Dt) (w : World) (hv : CalW w v ks ys) (hd : Sl w 4 dv (dtsV l)) :
    Calls Tryd.prog 11 #[v, dv] w fun e w' => e = .returned (.int .i64 (chF ks ys l)) ∧ Below w.heap.size w w' := by
  obtain ⟨x, y, rfl⟩ := hv.shape
  obtain ⟨A, n, c, rfl, hn, hnc, hcm, hcl⟩ := hd.open2 (by decide)
  rw [dtsV_length] at hn
  obtain rfl : n = l.length := by omega
  have hB0 := below_alloc' w (.cells #[x, y] 25)
  have Y0 := Cel.new w 25 #[x, y]
  have hk := (hv.below hB0).valid
  have HC := Lib.hid hcl
  clear hcl hn hd
  cases hc : calB ks ys with
  | false =>
    rw [hc] at hk
    have HF := Lib.hid (show chF ks ys l = 70 by unfold chF; rw [hc]; rfl)
    have HK := Lib.hid hk
    clear hk hc hv
    go_enter Tryd.func11, Tryd.ntmps11
    go_wp2_with (go_at_call 24; refine HK.out.mono ?_; rintro e w' ⟨rfl, hb⟩)
    go_ret
    exact ⟨by rw [HF.out]; rfl, below_then hB0 hb⟩
  | true =>
    rw [hc] at hk
    obtain ⟨hl, hok⟩ := calB_years hc
    have HF := Lib.hid (show chF ks ys l = if l.all (inB ys) then 0 else 71 by unfold chF; rw [hc]; rfl)
    have HK := Lib.hid hk
    have HV := Lib.hid (hv.below hB0)
    have HOK := Lib.hid hok
    clear hk hc hv hok
    go_enter Tryd.func11, Tryd.ntmps11
    go_wp2_with (go_at_call 24; refine HK.out.mono ?_; rintro e W1 ⟨rfl, hb⟩)
    have Y1 := Y0.below Y0.lt hb
    have hB1 := below_then hB0 hb
    go_loopw [12] (fun ti wr => ∃ (k : Nat), ti = .int .i64 k ∧ k ≤ l.length ∧ Hid ((l.take k).all (inB ys) = true) ∧ Cel wr w.heap.size 25 #[x, y] ∧ Below w.heap.size w wr ∧ CalV wr (.agg #[x, y]) ks ys) (fun ti _ => l.length - (intOf ti).toNat)
    case atStart => exact ⟨0, rfl, by omega, rfl, Y1, hB1, (HV.out.cal.below hb)⟩
    case round =>
      clear Y0 Y1 hB0 hB1 hb HV HK
      obtain ⟨k, rfl, hk, HA, hY, hB, hcv⟩ := hrel
      by_cases hlt : k < l.length
      · obtain ⟨b, o, e, _, hce⟩ := HC.out (by omega)
        subst e
        obtain ⟨g0, g1, g2, g3⟩ := dtsV_get hlt
        have e0 := below_cell hB (hce _ _ g0)
        have e1 := below_cell hB (hce _ _ g1)
        have e2 := below_cell hB (hce _ _ g2)
        have e3 := below_cell hB (hce _ _ g3)
        rw [← Nat.add_assoc] at e1 e2 e3
        have HT := Lib.hid (show (l.take (k + 1)).all (inB ys) = ((l.take k).all (inB ys) && inB ys l[k]) by rw [List.take_succ_eq_append_getElem hlt, List.all_append]; simp)
        have HX := Lib.hid (show inB ys l[k] = false → l.all (inB ys) = false from fun h => by
          rw [← Bool.not_eq_true, List.all_eq_true]
          intro h'
          rw [h' _ (List.getElem_mem hlt)] at h
          cases h)
        clear hce g0 g1 g2 g3
        generalize l[k] = d at *
        obtain ⟨dY, dM, dS, dD⟩ := d
        simp only at e0 e1 e2 e3
        have hBox := Cel.new wr 29 #[.int .i64 dY, .int .i64 dM, .bool dS, .int .i64 dD]
        have hY1 := hY.alloc (.cells #[.int .i64 dY, .int .i64 dM, .bool dS, .int .i64 dD] 29)
        have hB1 := hB.alloc hB.size (.cells #[.int .i64 dY, .int .i64 dM, .bool dS, .int .i64 dD] 29)
        have hcv1 := hcv.below (below_alloc' wr (.cells #[.int .i64 dY, .int .i64 dM, .bool dS, .int .i64 dD] 29))
        have q0 := hY1.cell 0 _ rfl
        have q1 := hY1.cell 1 _ rfl
        have hin := in_any (.agg #[x, y]) ks ys ⟨dY, dM, dS, dD⟩ _ hcv1 HOK.out hl
        cases hi : inB ys ⟨dY, dM, dS, dD⟩ with
        | true =>
          rw [hi] at hin HT
          have HIN := Lib.hid hin
          have HA2 := Lib.hid (show (l.take (k + 1)).all (inB ys) = true by rw [HT.out, HA.out]; rfl)
          clear hin hi HX HT hcv hY hB
          go_wp2_with (go_at_call 25; refine HIN.out.mono ?_; rintro e w2 ⟨rfl, hb2⟩)
          go_roundw
          case rel => exact ⟨k + 1, by go_num, by omega, HA2, hY1.below hY1.lt hb2, hB1.trans (hb2.mono hB1.size), hcv1.below hb2⟩
          case measure => simp [intOf]; omega
        | false =>
          rw [hi] at hin
          have HR := Lib.hid (show chF ks ys l = 71 by rw [HF.out, HX.out hi]; rfl)
          have HIN := Lib.hid hin
          clear hin hi HX HT hcv hY hB
          go_wp2_with (go_at_call 25; refine HIN.out.mono ?_; rintro e w2 ⟨rfl, hb2⟩)
          go_ret
          exact ⟨by rw [HR.out]; rfl, hB1.trans (hb2.mono hB1.size)⟩
      · obtain rfl : k = l.length := by omega
        have HR := Lib.hid (show chF ks ys l = 0 by have := HA.out; rw [List.take_length] at this; rw [HF.out, this]; rfl)
        go_wp2
        go_ret
        exact ⟨by rw [HR.out]; rfl, hB⟩
end Go.Proofs.YthpjeclhignciaaDoor
