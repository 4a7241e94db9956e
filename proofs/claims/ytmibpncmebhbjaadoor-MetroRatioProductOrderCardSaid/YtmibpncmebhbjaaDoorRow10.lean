/- MetroRatioProducts: the walk. -/
import Derived.Test.YtmibpncmebhbjaaDoorP10
import Derived.Test.YtmibpncmebhbjaaDoorFrac5
import Derived.Test.YtmibpncmebhbjaaDoorFrac6
namespace Go.Proofs.YtmibpncmebhbjaaDoor
open Go Go.RowKit Go.Shelf
attribute [local go_sem] Oper.semAt_some rrV

theorem infoRat : (Tryd.prog.info? 23).map (fun i => (i.zero, i.size, i.bytes)) = some (some (.agg #[.int .i64 0, .int .i64 0]), 2, 16) := by kernel_rfl
section
variable {ops : Array Oper} {rest : List Oper} {o : Oper} {a : Act} {Q : Exit → Act → World → Prop} {w : World}
theorem appRat (s x : Operand) (hgd : o.guard = none) (ho : o.op = .call { callee := .builtin .append, args := #[s, x], argTypes := #[94, 94] })
    {base n : Nat} {v vx : Value} {xs news : List Value} (hs : a.eval s = v) (hx : a.eval x = vx) (hown : w.ownsRow base 23 2 v n xs) (hr : Sl w 2 vx news) (h1 : ∀ u ∈ news, u.oneCell' = true)
    {N : Nat} (hN : n * 2 + news.length = N * 2) (hb : N ≤ 8796093022208) (hbase : base ≤ w.heap.size)
    (h : ∀ A c w', Appended base 23 2 v xs news w w' A N c → wpList Tryd.prog ops Q rest (a.put o.dst (.slice A N c)) w') : wpList Tryd.prog ops Q (o :: rest) a w := by
  obtain ⟨i, hi, hz0, hz1, hz2⟩ := info_parts infoRat
  exact wpList_app w hgd s x 94 ho base 23 i (.agg #[.int .i64 0, .int .i64 0]) 2 16 Tryd.underlying94 hi hz0 hz1 hz2 rfl (by decide) v n xs hs hown vx news hx hr h1 N hN (by omega) (by decide) hbase h
end
theorem rsV_one (l : List (Int × Int)) : ∀ u ∈ rsV l, u.oneCell' = true := by
  intro u hu
  obtain ⟨r, _, hr⟩ := List.mem_flatMap.1 hu
  simp at hr
  rcases hr with e | e <;> subst e <;> rfl
theorem floorV_shape (N D : Int) : ∃ q rN rD fe, floorV N D = .tuple #[.int .i64 q, .agg #[.int .i64 rN, .int .i64 rD], .int .i64 fe] := by
  cases h : isR N D with
  | true => exact ⟨_, _, _, _, floorV_yes h⟩
  | false => exact ⟨_, _, _, _, floorV_no h⟩

set_option maxRecDepth 100000 in
set_option maxHeartbeats 2000000 in
theorem ratioProducts_any (l : List (Int × Int)) (v : Value) (N D : Int) (w : World) (hz : Zw w) (hv : Sl w 2 v (rsV l)) (hbd : BdL l) (hlen : l.length * 16 ≤ 140737488355328) (hN : Bd N) (hD : Bd D) :
    Calls Tryd.prog 12 #[v, .agg #[.int .i64 N, .int .i64 D]] w fun e w' => e = .returned (.bool true) ∧ Below w.heap.size w w' := by
  obtain ⟨A, n, c, rfl, hlc, hcm, hcM, hcl⟩ := hv.open2 (by decide)
  rw [rsV_length] at hlc
  obtain rfl : n = l.length := by omega
  clear hlc
  have Y0 := (Cel.new w 23 #[.int .i64 N, .int .i64 D]).alloc (.cells #[] 23)
  have Y1 := Cel.at (w.alloc (.cells #[.int .i64 N, .int .i64 D] 23)) (w.heap.size + 1) 23 #[] (by simp)
  have hw0 : Below w.heap.size w ((w.alloc (.cells #[.int .i64 N, .int .i64 D] 23)).alloc (.cells #[] 23)) := (below_alloc' _ _).alloc (by simp) _
  obtain ⟨W, hW⟩ : ∃ W, (w.alloc (.cells #[.int .i64 N, .int .i64 D] 23)).alloc (.cells #[] 23) = W := ⟨_, rfl⟩
  have hWs : W.heap.size = w.heap.size + 1 + 1 := by rw [← hW]; simp
  rw [hW] at Y0 Y1 hw0
  have HO0 := Lib.hid (own_lit (base := w.heap.size + 1) (n := 0) (size := 2) Y1 (Nat.le_refl _) rfl (by decide))
  have HS0 := Lib.hid (hv.below hw0)
  have HSV := Lib.hid hv
  have HC := Lib.hid hcl
  have HBD := Lib.hid hbd
  have HZ := Lib.hid hz
  have HW0 := Lib.hid hw0
  have HY0 := Lib.hid Y0
  have HONE := Lib.hid (rsV_one l)
  have HLEN := Lib.hid (show 0 * 2 + (rsV l).length = l.length * 2 by rw [rsV_length]; omega)
  have hl2 : l.length ≤ 8796093022208 := by omega
  have HWS := Lib.hid hWs
  obtain ⟨q, rN, rD, fe, hF⟩ := floorV_shape N D
  have C9 := Lib.hid (fun (w' : World) (hb : Below w.heap.size w w') => works_any w' (hz.below hb))
  have HFL : Hid (∀ w', Below w.heap.size w w' → Calls Tryd.prog 48 #[.agg #[.int .i64 N, .int .i64 D]] w' fun e w'' => e = .returned (.tuple #[.int .i64 q, .agg #[.int .i64 rN, .int .i64 rD], .int .i64 fe]) ∧ Below w'.heap.size w' w'') := fun w' hb => by rw [← hF]; exact floor_any N D w' (hz.below hb) hN hD
  have HFR : Hid (∀ w', Calls Tryd.prog 62 #[.agg #[.int .i64 N, .int .i64 D]] w' fun e w'' => e = .returned (.tuple #[.int .i64 q, .agg #[.int .i64 rN, .int .i64 rD], .int .i64 fe]) ∧ Below w'.heap.size w' w'') := fun w' => by rw [← hF]; exact rfloor_any N D w' hN hD
  clear hF hv hcl hbd hz hw0 Y0 Y1 hlen hWs hN hD
  go_enter Tryd.func12, Tryd.ntmps12
  go_wp2_with (at_builtin; refine appRat _ _ rfl rfl rfl rfl HO0.out HS0.out HONE.out HLEN.out hl2 (by have := HWS.out; omega) ?_; intro A1 c1 w1 hap)
  have hb1 := below_of_own hap.grown HO0.out HW0.out (by omega)
  have HB1 := Lib.hid hb1
  have hown : w1.ownsRow (w.heap.size + 1) 23 2 (.slice A1 l.length c1) l.length (rsV l) := by simpa using hap.own
  have y0 := HY0.out.kept hap.grown (fun e => by have := own_ge HO0.out e.symm; omega)
  have HY1 := Lib.hid y0
  have HOW := Lib.hid hown
  clear hap hown y0 hb1
  have hc := mProduct_any l (.slice A1 l.length c1) w1 (HZ.out.below HB1.out) (Sl.of_own HOW.out) HBD.out
  go_fit hc
  clear hc
  rintro e w2 ⟨rfl, hb2⟩
  obtain ⟨p, hp⟩ : ∃ p, prodE l = p := ⟨_, rfl⟩
  rw [hp]
  have HP := Lib.hid hp
  clear hp
  obtain ⟨pN, pD, pE⟩ := p
  have HY2 := Lib.hid ((HY1.out.below HY1.out.lt hb2).alloc (.cells #[.int .i64 pN, .int .i64 pD] 23))
  have HX2 := Lib.hid (Cel.new w2 23 #[.int .i64 pN, .int .i64 pD])
  have HOW2 := Lib.hid (own_below HOW.out (hb2.alloc hb2.size (.cells #[.int .i64 pN, .int .i64 pD] 23)))
  have HB2 := Lib.hid (below_then HB1.out (hb2.alloc hb2.size (.cells #[.int .i64 pN, .int .i64 pD] 23)))
  clear hb2
  go_wp2_with fail
  have hc := rProduct_any l (.slice A l.length c) (w2.alloc (.cells #[.int .i64 pN, .int .i64 pD] 23)) (HSV.out.below HB2.out) HBD.out
  rw [HP.out] at hc
  go_fit hc
  clear hc
  rintro e w3 ⟨rfl, hb3⟩
  have HY3 := Lib.hid ((HY2.out.below HY2.out.lt hb3).alloc (.cells #[.int .i64 pN, .int .i64 pD] 23))
  have HX3 := Lib.hid ((HX2.out.below HX2.out.lt hb3).alloc (.cells #[.int .i64 pN, .int .i64 pD] 23))
  have HX4 := Lib.hid (Cel.new w3 23 #[.int .i64 pN, .int .i64 pD])
  have HOW3 := Lib.hid (own_below HOW2.out (hb3.alloc hb3.size (.cells #[.int .i64 pN, .int .i64 pD] 23)))
  have HB3 := Lib.hid (below_then HB2.out (hb3.alloc hb3.size (.cells #[.int .i64 pN, .int .i64 pD] 23)))
  clear hb3
  have x0 := HX3.out.cell 0 (.int .i64 pN) rfl
  have x1 := HX3.out.cell 1 (.int .i64 pD) rfl
  have x2 := HX4.out.cell 0 (.int .i64 pN) rfl
  have x3 := HX4.out.cell 1 (.int .i64 pD) rfl
  go_wp2
  obtain ⟨V, hV⟩ : ∃ V, w3.alloc (.cells #[.int .i64 pN, .int .i64 pD] 23) = V := ⟨_, rfl⟩
  rw [hV] at HY3 HOW3 HB3 ⊢
  clear hV x0 x1 x2 x3 HX3 HX4
  go_loopw [10, 11] (fun ok i wr => ∃ (k n : Nat), i = .int .i64 k ∧ k ≤ l.length ∧ ok = .bool true ∧ wr = V.drewN n) (fun _ i _ => l.length - (intOf i).toNat)
  case atStart => exact ⟨0, 0, rfl, by omega, rfl, rfl⟩
  case round =>
    obtain ⟨k, m, rfl, hk, rfl, rfl⟩ := hrel
    by_cases hlt : k < l.length
    · obtain ⟨b, o, e, _, hce⟩ := HC.out (by omega)
      subst e
      obtain ⟨A2, c2, e2, hc2, hm2, f2⟩ := own_slice HOW3.out
      obtain ⟨rfl, rfl⟩ : A1 = A2 ∧ c1 = c2 := by injection e2 with h1 h2 h3; exact ⟨h1, h3⟩
      obtain ⟨g, rfl, _, _⟩ := f2 (by omega)
      clear f2 e2
      obtain ⟨g0, g1⟩ := rsV_get hlt
      have e0 := below_cell HB3.out (hce _ _ g0)
      have e1 := below_cell HB3.out (hce _ _ g1)
      rw [← Nat.add_assoc] at e1
      have o0 := (HOW3.out.cellAt (k * 2) (by omega)).trans g0
      have o1 := (HOW3.out.cellAt (k * 2 + 1) (by omega)).trans g1
      have k1 : (0 : Int) ≤ (k : Int) := by omega
      have k2 : (k : Int) < (l.length : Int) := by omega
      clear hce g0 g1
      generalize l[k] = r at *
      obtain ⟨N1, D1⟩ := r
      simp only at e0 e1 o0 o1
      go_wp2_with fail
      go_quiet (fail)
      go_wp2
      go_roundw
      case rel => exact ⟨k + 1, m + nq, by go_num, hlt, by simp, by first | rfl | rw [World.drewN_drewN]⟩
      case measure => simp [intOf]; omega
    · have a0 := HY3.out.cell 0 (.int .i64 N) rfl
      have a1 := HY3.out.cell 1 (.int .i64 D) rfl
      have HB4 := Lib.hid (below_drewN HB3.out m)
      have HY4 := Lib.hid (show Cel (V.drewN m) _ _ _ from HY3.out.below HY3.out.lt (below_drewN' V m))
      go_wp2_with fail
      have hc := HFL.out (V.drewN m) HB4.out
      go_fit hc
      clear hc
      rintro e w4 ⟨rfl, hb4⟩
      have y4 := (HY4.out.below HY4.out.lt hb4).alloc (.cells #[.int .i64 rN, .int .i64 rD] 23)
      have HX4 := Lib.hid (Cel.new w4 23 #[.int .i64 rN, .int .i64 rD])
      have HB5 := Lib.hid (below_then HB4.out (hb4.alloc hb4.size (.cells #[.int .i64 rN, .int .i64 rD] 23)))
      have b0 := y4.cell 0 (.int .i64 N) rfl
      have b1 := y4.cell 1 (.int .i64 D) rfl
      clear hb4 y4 a0 a1
      go_wp2_with fail
      have hc := HFR.out (w4.alloc (.cells #[.int .i64 rN, .int .i64 rD] 23))
      go_fit hc
      clear hc
      rintro e w5 ⟨rfl, hb5⟩
      have x4 := (HX4.out.below HX4.out.lt hb5).alloc (.cells #[.int .i64 rN, .int .i64 rD] 23)
      have x5 := Cel.new w5 23 #[.int .i64 rN, .int .i64 rD]
      have HB6 := Lib.hid (below_then HB5.out (hb5.alloc hb5.size (.cells #[.int .i64 rN, .int .i64 rD] 23)))
      have q0 := x4.cell 0 (.int .i64 rN) rfl
      have q1 := x4.cell 1 (.int .i64 rD) rfl
      have q2 := x5.cell 0 (.int .i64 rN) rfl
      have q3 := x5.cell 1 (.int .i64 rD) rfl
      clear hb5 x4 x5 b0 b1
      go_wp2_with fail
      have hc := C9.out _ HB6.out
      go_fit hc
      clear hc
      rintro e w6 ⟨rfl, hb6⟩
      go_wp2
      go_ret
      exact ⟨rfl, below_then HB6.out hb6⟩
end Go.Proofs.YtmibpncmebhbjaaDoor
