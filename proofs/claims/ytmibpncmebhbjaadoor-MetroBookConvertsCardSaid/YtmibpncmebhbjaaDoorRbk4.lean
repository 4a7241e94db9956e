/- The reference's fractions along bridges: the walk of bridge. -/
import Derived.Test.YtmibpncmebhbjaaDoorRbk3
namespace Go.Proofs.YtmibpncmebhbjaaDoor
open Go Go.RowKit Go.Shelf
attribute [local go_sem] Oper.semAt_some

/-- What a bridge, or its reciprocal, multiplies a fraction by. -/
def brUp (st : St) (b : Br) (back : Bool) : List Nat := if back then [b.D.natAbs, (brVa st b).1.natAbs] else [b.N.natAbs, (brVb st b).1.natAbs]
def brDn (st : St) (b : Br) (back : Bool) : List Nat := if back then [b.N.natAbs, (brVb st b).1.natAbs] else [b.D.natAbs, (brVa st b).1.natAbs]
theorem br_pos {st : St} {b : Br} (h : brE st b = 0) : 1 ≤ b.N ∧ 1 ≤ b.D ∧ (1 ≤ (brVa st b).1 ∧ (brVa st b).1 ≤ 1099511627776) ∧ (1 ≤ (brVb st b).1 ∧ (brVb st b).1 ≤ 1099511627776) := by
  obtain ⟨_, _, h1, h2, h3, h4⟩ := brE_zero h
  exact ⟨by omega, (isR_bd h3).1, valueF_pos (v := (brVa st b).1) (Prod.ext rfl h1), valueF_pos (v := (brVb st b).1) (Prod.ext rfl h2)⟩
theorem ones2 {a b : Int} (h1 : 1 ≤ a) (h2 : a ≤ 9223372036854775807) (h3 : 1 ≤ b) (h4 : b ≤ 9223372036854775807) : Ones [a.natAbs, b.natAbs] :=
  Ones.cons (by omega) (by omega) (Ones.cons (by omega) (by omega) Ones.nil)
theorem br_ones {st : St} {b : Br} (h : brE st b = 0) (back : Bool) : Ones (brUp st b back) ∧ Ones (brDn st b back) := by
  obtain ⟨h1, h2, ⟨h3, h4⟩, ⟨h5, h6⟩⟩ := br_pos h
  have a := ones2 h1 b.hN.2 h5 (by omega)
  have c := ones2 h2 b.hD.2 h3 (by omega)
  cases back
  · exact ⟨a, c⟩
  · exact ⟨c, a⟩
theorem natAbs_rat {a : Int} (h : 1 ≤ a) : ((a.natAbs : Nat) : Rat) = (a : Rat) := by
  have : ((a.natAbs : Nat) : Int) = a := by omega
  exact_mod_cast congrArg (fun z : Int => (z : Rat)) this
theorem val2 (a b c d : Nat) : val [a, b] [c, d] = ((a : Rat) * (b : Rat)) / ((c : Rat) * (d : Rat)) := by
  unfold val prodN
  simp [prodN]
theorem br_val {st : St} {b : Br} (h : brE st b = 0) (back : Bool) : val (brUp st b back) (brDn st b back) = if back then (brOwn st b)⁻¹ else brOwn st b := by
  obtain ⟨h1, h2, ⟨h3, h4⟩, ⟨h5, h6⟩⟩ := br_pos h
  cases back
  · show val [_, _] [_, _] = brOwn st b
    rw [val2, natAbs_rat h1, natAbs_rat h2, natAbs_rat h3, natAbs_rat h5]
    rfl
  · show val [_, _] [_, _] = (brOwn st b)⁻¹
    rw [val2, natAbs_rat h1, natAbs_rat h2, natAbs_rat h3, natAbs_rat h5]
    unfold brOwn ownQ
    have n1 : (b.N : Rat) * ((brVb st b).1 : Rat) ≠ 0 := by
      have e1 : (b.N : Rat) ≠ 0 := by rw [← natAbs_rat h1]; exact_mod_cast (by omega : b.N.natAbs ≠ 0)
      have e2 : ((brVb st b).1 : Rat) ≠ 0 := by rw [← natAbs_rat h5]; exact_mod_cast (by omega : (brVb st b).1.natAbs ≠ 0)
      grind
    have n2 : (b.D : Rat) * ((brVa st b).1 : Rat) ≠ 0 := by
      have e1 : (b.D : Rat) ≠ 0 := by rw [← natAbs_rat h2]; exact_mod_cast (by omega : b.D.natAbs ≠ 0)
      have e2 : ((brVa st b).1 : Rat) ≠ 0 := by rw [← natAbs_rat h3]; exact_mod_cast (by omega : (brVa st b).1.natAbs ≠ 0)
      grind
    grind
set_option maxRecDepth 100000 in
set_option maxHeartbeats 4000000 in
theorem rbridge_any (Bk : Nat) (lv bv : Value) (st : St) (bs : List Br) (b : Br) (back : Bool) (base Bf : Nat) (neg : Bool) (U D : List Nat) (w : World) (h : RBk w Bk lv bv st.ls bs) (hg : Good st) (hb : brE st b = 0)
    (hF : FrQ w base Bf neg U D) (hbase : base ≤ w.heap.size) (lU : U.length ≤ 1000000) (lD : D.length ≤ 1000000) :
    Calls Tryd.prog 127 #[.pointer (some ⟨Bk, 0, none⟩), .pointer (some ⟨Bf, 0, none⟩), .agg #[.string b.A, .string b.SA, .string b.B, .string b.SB, .int .i64 b.N, .int .i64 b.D], .bool back] w fun e w' => e = .returned (.tuple #[]) ∧ FrQ w' base Bf neg (U ++ brUp st b back) (D ++ brDn st b back) ∧ KeptT w w' ∧ Below base w w' := by
  obtain ⟨I1, I2, v1, v2, r1, r2⟩ := brE_zero hb
  obtain ⟨p1, p2, ⟨p3, p4⟩, ⟨p5, p6⟩⟩ := br_pos hb
  obtain ⟨A, c, rfl, hlc, hcm, hlk⟩ := h.lads.open
  obtain ⟨lb, lo, AX, cX, eX, _, x0, x1, hsX⟩ := hlk _ I1
  subst eX
  obtain ⟨lb', lo', AY, cY, eY, _, y0, y1, hsY⟩ := hlk _ I2
  cases eY
  have q0 := h.blk.cell 0 (.slice (some ⟨lb, lo, none⟩) st.ls.length c) rfl
  have e1 : idxE st.ls b.A = 0 := by
    rcases idxE_two st.ls b.A with e | e
    · exact e
    · rw [brE_none (.inl (by rw [e]; decide))] at hb; cases hb
  have e2 : idxE st.ls b.B = 0 := by
    rcases idxE_two st.ls b.B with e | e
    · exact e
    · rw [brE_none (.inr (by rw [e]; decide))] at hb; cases hb
  have HA : Hid (∀ W, Below w.heap.size w W → Calls Tryd.prog 107 #[.pointer (some ⟨Bk, 0, none⟩), .string b.A] W fun e w' => e = .returned (.int .i64 (brI st b : Int)) ∧ W = w') := fun W hw => by
    have := at_any Bk _ _ st.ls b.A W (h.below hw).blk (h.below hw).lads hg.few
    rwa [atI_yes e1] at this
  have HA2 : Hid (∀ W, Below w.heap.size w W → Calls Tryd.prog 107 #[.pointer (some ⟨Bk, 0, none⟩), .string b.B] W fun e w' => e = .returned (.int .i64 (brJ st b : Int)) ∧ W = w') := fun W hw => by
    have := at_any Bk _ _ st.ls b.B W (h.below hw).blk (h.below hw).lads hg.few
    rwa [atI_yes e2] at this
  have KVA : Hid (∀ W, Below w.heap.size w W → Calls Tryd.prog 30 #[.agg #[.string st.ls[brI st b].nm, .slice AX st.ls[brI st b].us.length cX], .string b.SA] W fun e w' => e = .returned (.tuple #[.int .i64 (brVa st b).1, .int .i64 0]) ∧ Below W.heap.size W w') := fun W hw => by
    have := rvalue_any st.ls[brI st b].nm st.ls[brI st b].hn AX cX st.ls[brI st b].us b.SA W (hsX.below hw)
    have e : valueF st.ls[brI st b].nm st.ls[brI st b].us b.SA = ((brVa st b).1, 0) := by
      have : valueF st.ls[brI st b].nm st.ls[brI st b].us b.SA = brVa st b := by unfold brVa; rw [ladOf_lt I1]
      rw [this, ← v1]
    rwa [e] at this
  have KVB : Hid (∀ W, Below w.heap.size w W → Calls Tryd.prog 30 #[.agg #[.string st.ls[brJ st b].nm, .slice AY st.ls[brJ st b].us.length cY], .string b.SB] W fun e w' => e = .returned (.tuple #[.int .i64 (brVb st b).1, .int .i64 0]) ∧ Below W.heap.size W w') := fun W hw => by
    have := rvalue_any st.ls[brJ st b].nm st.ls[brJ st b].hn AY cY st.ls[brJ st b].us b.SB W (hsY.below hw)
    have e : valueF st.ls[brJ st b].nm st.ls[brJ st b].us b.SB = ((brVb st b).1, 0) := by
      have : valueF st.ls[brJ st b].nm st.ls[brJ st b].us b.SB = brVb st b := by unfold brVb; rw [ladOf_lt I2]
      rw [this, ← v2]
    rwa [e] at this
  have HUP := Lib.hid (show brUp st b back = if back then [b.D.natAbs, (brVa st b).1.natAbs] else [b.N.natAbs, (brVb st b).1.natAbs] from rfl)
  have HDN := Lib.hid (show brDn st b back = if back then [b.N.natAbs, (brVb st b).1.natAbs] else [b.D.natAbs, (brVa st b).1.natAbs] from rfl)
  have bN := b.hN
  have bD := b.hD
  have hF0 := hF
  obtain ⟨sN, sD, hC, hlt, _⟩ := hF0
  have hBw := hC.lt
  have HF := Lib.hid hF
  obtain ⟨i1, hi1⟩ : ∃ i, brI st b = i := ⟨_, rfl⟩
  obtain ⟨i2, hi2⟩ : ∃ i, brJ st b = i := ⟨_, rfl⟩
  have I1' : (0 : Int) ≤ (i1 : Int) := by omega
  have I2' : (0 : Int) ≤ (i2 : Int) := by omega
  clear h hg hb hlk hsX hsY e1 e2 v1 v2 r1 r2 hF hC
  generalize brUp st b back = UP at *
  generalize brDn st b back = DN at *
  generalize (brVa st b).1 = va at *
  generalize (brVb st b).1 = vb at *
  generalize st.ls[brI st b].nm = nX at *
  generalize st.ls[brI st b].us.length = uX at *
  generalize st.ls[brJ st b].nm = nY at *
  generalize st.ls[brJ st b].us.length = uY at *
  rw [hi1] at HA x0 x1 I1
  rw [hi2] at HA2 y0 y1 I2
  clear hi1 hi2
  have I1'' : (i1 : Int) < (st.ls.length : Int) := by omega
  have I2'' : (i2 : Int) < (st.ls.length : Int) := by omega
  obtain ⟨bA, bSA, bB, bSB, bn, bd, _, _⟩ := b
  simp only at *
  have Y := Cel.new w 83 #[.string bA, .string bSA, .string bB, .string bSB, .int .i64 bn, .int .i64 bd]
  have hB0 := below_alloc' w (.cells #[.string bA, .string bSA, .string bB, .string bSB, .int .i64 bn, .int .i64 bd] 83)
  go_enter Tryd.func127, Tryd.ntmps127
  go_upto_region 1 with fail
  obtain ⟨W, hW⟩ : ∃ W, w.alloc (.cells #[.string bA, .string bSA, .string bB, .string bSB, .int .i64 bn, .int .i64 bd] 83) = W := ⟨_, rfl⟩
  have hWs : W.heap.size = w.heap.size + 1 := by rw [← hW]; simp
  rw [hW] at Y hB0 ⊢
  have HY := Lib.hid Y
  have HBW := Lib.hid hB0
  have HWs := Lib.hid hWs
  have hU0 := Lib.hid (Below.refl W.heap.size W)
  have HEX : Hid (∀ w', Below W.heap.size W w' → w'.cell? ⟨w.heap.size, 0, none⟩ = some (.string bA) ∧ w'.cell? ⟨w.heap.size, 2, none⟩ = some (.string bB) ∧ w'.cell? ⟨Bk, 0, none⟩ = some (.slice (some ⟨lb, lo, none⟩) st.ls.length c) ∧ w'.cell? ⟨lb, lo + i1 * 2, none⟩ = some (.string nX) ∧ w'.cell? ⟨lb, lo + i1 * 2 + 1, none⟩ = some (.slice AX uX cX) ∧ w'.cell? ⟨lb, lo + i2 * 2, none⟩ = some (.string nY) ∧ w'.cell? ⟨lb, lo + i2 * 2 + 1, none⟩ = some (.slice AY uY cY)) := fun w' hb => by
    have h1 := HY.out.below HY.out.lt hb
    have h2 := below_then HBW.out hb
    exact ⟨h1.cell 0 _ rfl, h1.cell 2 _ rfl, below_cell h2 q0, below_cell h2 x0, below_cell h2 x1, below_cell h2 y0, below_cell h2 y1⟩
  clear hW Y hB0 hWs q0 x0 x1 y0 y1
  obtain ⟨g0, g1, g2, g3, g4, g5, g6⟩ := HEX.out W (Below.refl _ _)
  go_cut [8, 9] (fun v8 v9 wx => ∃ (Wx : World) (B8 B9 : Nat), Wx = wx ∧ v8 = .pointer (some ⟨B8, 0, none⟩) ∧ v9 = .pointer (some ⟨B9, 0, none⟩) ∧ Cel wx B8 33 #[.string nX, .slice AX uX cX] ∧ Cel wx B9 33 #[.string nY, .slice AY uY cY] ∧ Below W.heap.size W wx)
  case first =>
    go_region_held3 (fun w' => w'.cell? ⟨w.heap.size, 0, none⟩ = some (.string bA) ∧ w'.cell? ⟨w.heap.size, 2, none⟩ = some (.string bB) ∧ w'.cell? ⟨Bk, 0, none⟩ = some (.slice (some ⟨lb, lo, none⟩) st.ls.length c) ∧ w'.cell? ⟨lb, lo + i1 * 2, none⟩ = some (.string nX) ∧ w'.cell? ⟨lb, lo + i1 * 2 + 1, none⟩ = some (.slice AX uX cX) ∧ w'.cell? ⟨lb, lo + i2 * 2, none⟩ = some (.string nY) ∧ w'.cell? ⟨lb, lo + i2 * 2 + 1, none⟩ = some (.slice AY uY cY))
      (first | exact HEX.out _ (by (repeat (first | exact hU0.out | refine below_drew ?_ | refine Below.setCell ?_ (by first | omega | (simp; done) | (simp; omega)) _ | refine Below.alloc ?_ (by first | omega | (simp; done) | (simp; omega)) _)); done) | go_keep)
      (first
      | (go_at_call_of 107 (Value.string bA); refine (HA.out _ (below_then HBW.out (by (repeat (first | exact hU0.out | refine below_drew ?_ | refine Below.setCell ?_ (by first | omega | (simp; done) | (simp; omega)) _ | refine Below.alloc ?_ (by first | omega | (simp; done) | (simp; omega)) _)); done))).mono ?_; rintro e w' ⟨rfl, rfl⟩)
      | (go_at_call_of 107 (Value.string bB); refine (HA2.out _ (below_then HBW.out (by (repeat (first | exact hU0.out | refine below_drew ?_ | refine Below.setCell ?_ (by first | omega | (simp; done) | (simp; omega)) _ | refine Below.alloc ?_ (by first | omega | (simp; done) | (simp; omega)) _)); done))).mono ?_; rintro e w' ⟨rfl, rfl⟩))
    all_goals (
      go_wp2
      go_meet
      exact ⟨_, _, _, rfl, rfl, rfl, (by first | exact (Cel.new W _ _).alloc _ | exact Cel.at (W.alloc _) _ _ _ (by simp)), (by first | exact (Cel.new W _ _).alloc _ | exact Cel.at (W.alloc _) _ _ _ (by simp)), (by (repeat (first | exact hU0.out | refine below_drew ?_ | refine Below.alloc ?_ (by first | omega | (simp; done) | (simp; omega)) _)))⟩)
  case rest =>
    obtain ⟨Wx, B8, B9, rfl, rfl, rfl, hX, hY, hbx⟩ := hcut
    have HB1 := Lib.hid (below_then HBW.out hbx)
    have hbb := HY.out.below HY.out.lt hbx
    have HX := Lib.hid hX
    have HYY := Lib.hid hY
    have HBB := Lib.hid hbb
    have m0 := hX.cell 0 (.string nX) rfl
    have m1 := hX.cell 1 (.slice AX uX cX) rfl
    have m2 := hbb.cell 1 (.string bSA) rfl
    obtain ⟨van, hva⟩ := Int.eq_ofNat_of_zero_le (show 0 ≤ va by omega)
    obtain ⟨vbn, hvb⟩ := Int.eq_ofNat_of_zero_le (show 0 ≤ vb by omega)
    subst hva
    subst hvb
    clear g0 g1 g2 g3 g4 g5 g6 hX hY hbx hbb HEX HY HA HA2 hU0
    go_wp2_with fail
    go_fit (KVA.out Wx HB1.out)
    rintro e w1 ⟨rfl, hb1⟩
    have HB2 := Lib.hid (below_then HB1.out hb1)
    have HBB2 := Lib.hid (HBB.out.below HBB.out.lt hb1)
    have n0 := (HYY.out.below HYY.out.lt hb1).cell 0 (.string nY) rfl
    have n1 := (HYY.out.below HYY.out.lt hb1).cell 1 (.slice AY uY cY) rfl
    have n2 := HBB2.out.cell 3 (.string bSB) rfl
    clear m0 m1 m2 hb1 HBB HX HYY
    go_wp2_with fail
    go_fit (KVB.out w1 HB2.out)
    rintro e w2 ⟨rfl, hb2⟩
    have HB3 := Lib.hid (below_then HB2.out hb2)
    have HBB3 := Lib.hid (HBB2.out.below HBB2.out.lt hb2)
    have n3 := HBB3.out.cell 4 (.int .i64 bn) rfl
    clear n0 n1 n2 hb2 HBB2 KVA KVB
    have wa := wrapU van (by omega)
    have wb := wrapU vbn (by omega)
    go_wp2_with fail
    go_fit (rsizeN bn w2 bN)
    rintro e w' ⟨rfl, rfl⟩
    obtain ⟨x1, hx1⟩ : ∃ x, bn.natAbs = x := ⟨_, rfl⟩
    obtain ⟨x2, hx2⟩ : ∃ x, bd.natAbs = x := ⟨_, rfl⟩
    rw [hx1, hx2, Int.natAbs_natCast, Int.natAbs_natCast] at HUP HDN
    rw [hx1]
    have n4 := (HBB3.out.alloc (.cells #[.int .u64 (x1 : Int), .int .u64 (vbn : Int)] 117)).cell 5 (.int .i64 bd) rfl
    clear hx1
    go_wp2_with fail
    go_fit (rsizeN bd _ bD)
    rintro e w' ⟨rfl, rfl⟩
    rw [hx2]
    clear hx2 n3 n4
    have HX1 := Lib.hid ((Cel.new w2 117 #[.int .u64 (x1 : Int), .int .u64 (vbn : Int)]).alloc (.cells #[.int .u64 (x2 : Int), .int .u64 (van : Int)] 117))
    have HX2 := Lib.hid (Cel.at (w2.alloc (.cells #[.int .u64 (x1 : Int), .int .u64 (vbn : Int)] 117)) (w2.heap.size + 1) 117 #[.int .u64 (x2 : Int), .int .u64 (van : Int)] (by simp))
    have HB4 := Lib.hid ((HB3.out.alloc HB3.out.size (.cells #[.int .u64 (x1 : Int), .int .u64 (vbn : Int)] 117)).alloc (Nat.le_trans HB3.out.size (by simp)) (.cells #[.int .u64 (x2 : Int), .int .u64 (van : Int)] 117))
    have hs2 := HB3.out.size
    obtain ⟨W4, hW4⟩ : ∃ W4, (w2.alloc (.cells #[.int .u64 (x1 : Int), .int .u64 (vbn : Int)] 117)).alloc (.cells #[.int .u64 (x2 : Int), .int .u64 (van : Int)] 117) = W4 := ⟨_, rfl⟩
    rw [hW4] at HX1 HX2 HB4
    have HS1 := Lib.hid (HX1.out.sl (s := 1) (m := 2) (cap := 2) (xs := u64s [x1, vbn]) rfl rfl (Nat.le_refl _) (by decide))
    have HS2 := Lib.hid (HX2.out.sl (s := 1) (m := 2) (cap := 2) (xs := u64s [x2, van]) rfl rfl (Nat.le_refl _) (by decide))
    have hb4 : base ≤ W4.heap.size := Nat.le_trans hbase HB4.out.size
    have HK4 := Lib.hid (KeptT.below HB4.out)
    have HB4f := Lib.hid (show Below base w W4 from HB4.out.mono hbase)
    obtain ⟨sN, sD, hP0⟩ := HF.out.frp
    obtain ⟨AN, cN, rfl, _, _, _⟩ := own_slice hP0.up
    obtain ⟨AD, cD, rfl, _, _, _⟩ := own_slice hP0.dn
    have hP := hP0.below HB4.out
    have HGN : Hid (∀ g, (Value.slice AN U.length cN).ownBlock = some g → g < w.heap.size) := fun g hg => own_lt hP0.up hg
    have HP := Lib.hid hP
    have HNB : Hid ((Value.slice AN U.length cN).ownBlock ≠ some Bf) := own_notF hP.up hP.blk
    have k1 := hP.blk.cell 1 (.slice AN U.length cN) rfl
    have k2 := hP.blk.cell 2 (.slice AD D.length cD) rfl
    clear HBB3 HB3 hP hP0 HF
    cases back with
    | false =>
      have HUP2 := Lib.hid (show UP = [x1, vbn] by have := HUP.out; simpa using this)
      have HDN2 := Lib.hid (show DN = [x2, van] by have := HDN.out; simpa using this)
      clear HUP HDN
      go_wp2_with (first
        | (at_builtin; refine appU64 (.tmp 71) (.tmp 72) rfl rfl rfl rfl HP.out.up HS1.out (by simp [Value.oneCell', u64s]) (N := U.length + 2) (by simp [u64s]) (by omega) hb4 ?_; intro A5 c5 w5 hap; obtain ⟨hP5, hK5, hB5⟩ := fr_addN HP.out hb4 hap rfl; have hC5 := HP.out.blk.kept hap.grown (fun e => HNB.out e.symm); have k5 := hC5.cell 1 _ rfl; have k6 := hC5.cell 2 _ rfl; have f5 := hC5.frozen 1; have f6 := hC5.frozen 2; have HP5 := Lib.hid hP5; have HK5 := Lib.hid hK5; have HB5 := Lib.hid hB5; have hb5 : base ≤ (w5.setCell ⟨Bf, 1, none⟩ (.slice A5 (U.length + 2) c5)).heap.size := (Nat.le_trans hb4 hB5.size); have hx := (HX2.out.kept hap.grown (fun e => by have := HGN.out _ e.symm; omega)).other (p := ⟨Bf, 1, none⟩) (by show Bf ≠ _; omega) (.slice A5 (U.length + 2) c5); have HS5 := Lib.hid (hx.sl (s := 1) (m := 2) (cap := 2) (xs := u64s [x2, van]) rfl rfl (Nat.le_refl _) (by decide)); clear hap hP5 hK5 hB5 hC5 hx)
        | (at_builtin; refine appU64 (.tmp 80) (.tmp 81) rfl rfl rfl rfl HP5.out.dn HS5.out (by simp [Value.oneCell', u64s]) (N := D.length + 2) (by simp [u64s]) (by omega) hb5 ?_; intro A6 c6 w6 hap6; obtain ⟨hP6, hK6, hB6⟩ := fr_addD HP5.out hb5 hap6 rfl; have hC6 := HP5.out.blk.kept hap6.grown (fun e => own_notF HP5.out.dn HP5.out.blk e.symm); have k7 := hC6.cell 1 _ rfl; have k8 := hC6.cell 2 _ rfl; have f7 := hC6.frozen 1; have f8 := hC6.frozen 2; have HP6 := Lib.hid hP6; have HK6 := Lib.hid hK6; have HB6 := Lib.hid hB6; clear hap6 hP6 hK6 hB6 hC6))
      go_end0
      refine ⟨rfl, ?_, (HK4.out.trans HK5.out).trans HK6.out, (HB4f.out.trans HB5.out).trans HB6.out⟩
      rw [HUP2.out, HDN2.out]
      exact HP6.out.fro
    | true =>
      have HUP2 := Lib.hid (show UP = [x2, van] by have := HUP.out; simpa using this)
      have HDN2 := Lib.hid (show DN = [x1, vbn] by have := HDN.out; simpa using this)
      clear HUP HDN
      go_wp2_with (first
        | (at_builtin; refine appU64 (.tmp 71) (.tmp 72) rfl rfl rfl rfl HP.out.up HS2.out (by simp [Value.oneCell', u64s]) (N := U.length + 2) (by simp [u64s]) (by omega) hb4 ?_; intro A5 c5 w5 hap; obtain ⟨hP5, hK5, hB5⟩ := fr_addN HP.out hb4 hap rfl; have hC5 := HP.out.blk.kept hap.grown (fun e => HNB.out e.symm); have k5 := hC5.cell 1 _ rfl; have k6 := hC5.cell 2 _ rfl; have f5 := hC5.frozen 1; have f6 := hC5.frozen 2; have HP5 := Lib.hid hP5; have HK5 := Lib.hid hK5; have HB5 := Lib.hid hB5; have hb5 : base ≤ (w5.setCell ⟨Bf, 1, none⟩ (.slice A5 (U.length + 2) c5)).heap.size := (Nat.le_trans hb4 hB5.size); have hx := (HX1.out.kept hap.grown (fun e => by have := HGN.out _ e.symm; omega)).other (p := ⟨Bf, 1, none⟩) (by show Bf ≠ _; omega) (.slice A5 (U.length + 2) c5); have HS5 := Lib.hid (hx.sl (s := 1) (m := 2) (cap := 2) (xs := u64s [x1, vbn]) rfl rfl (Nat.le_refl _) (by decide)); clear hap hP5 hK5 hB5 hC5 hx)
        | (at_builtin; refine appU64 (.tmp 80) (.tmp 81) rfl rfl rfl rfl HP5.out.dn HS5.out (by simp [Value.oneCell', u64s]) (N := D.length + 2) (by simp [u64s]) (by omega) hb5 ?_; intro A6 c6 w6 hap6; obtain ⟨hP6, hK6, hB6⟩ := fr_addD HP5.out hb5 hap6 rfl; have hC6 := HP5.out.blk.kept hap6.grown (fun e => own_notF HP5.out.dn HP5.out.blk e.symm); have k7 := hC6.cell 1 _ rfl; have k8 := hC6.cell 2 _ rfl; have f7 := hC6.frozen 1; have f8 := hC6.frozen 2; have HP6 := Lib.hid hP6; have HK6 := Lib.hid hK6; have HB6 := Lib.hid hB6; clear hap6 hP6 hK6 hB6 hC6))
      go_end0
      refine ⟨rfl, ?_, (HK4.out.trans HK5.out).trans HK6.out, (HB4f.out.trans HB5.out).trans HB6.out⟩
      rw [HUP2.out, HDN2.out]
      exact HP6.out.fro
end Go.Proofs.YtmibpncmebhbjaaDoor
