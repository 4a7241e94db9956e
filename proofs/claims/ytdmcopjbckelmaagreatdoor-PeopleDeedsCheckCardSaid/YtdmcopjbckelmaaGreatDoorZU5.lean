/- Walks of the reference: CopyDeeds, SameDeeds. Conditions: those stated. Walks of the reference: SameDeeds. Conditions: those stated. -/
import Derived.Test.YtdmcopjbckelmaaGreatDoorZG3
import Derived.Test.YtdmcopjbckelmaaGreatDoorZO6
import Derived.Test.YtdmcopjbckelmaaGreatDoorZJ1
import Derived.Test.YtdmcopjbckelmaaGreatDoorZRB
import Derived.Test.YtdmcopjbckelmaaGreatDoorZI8
import Derived.BigQuiet
namespace Go.Proofs.YtdmcopjbckelmaaGreatDoor
section
open Go Go.RowKit Go.Shelf
attribute [local go_sem] Oper.semAt_some

theorem appDeedB {ops : Array Oper} {rest : List Oper} {o : Oper} {a : Act} {Q : Exit → Act → World → Prop} {w : World} (s x : Operand) (hgd : o.guard = none) (ho : o.op = .call { callee := .builtin .append, args := #[s, x], argTypes := #[38, 38] })
    {base n : Nat} {v vx : Value} {xs news : List Value} (hs : a.eval s = v) (hx : a.eval x = vx) (hown : w.ownsRow base 63 5 v n xs) (hr : Sl w 5 vx news) (h1 : ∀ u ∈ news, u.oneCell' = true)
    {N : Nat} (hN : n * 5 + news.length = N * 5) (hb : N * 80 ≤ 140737488355328) (hbase : base ≤ w.heap.size)
    (h : ∀ A c w', Appended base 63 5 v xs news w w' A N c → wpList Tryz.prog ops Q rest (a.put o.dst (.slice A N c)) w') : wpList Tryz.prog ops Q (o :: rest) a w := by
  obtain ⟨i, hi, hz0, hz1, hz2⟩ := info_parts infoDeed
  exact wpList_app w hgd s x 38 ho base 63 i (.agg #[.string ⟨#[]⟩, .int .i64 0, .string ⟨#[]⟩, .string ⟨#[]⟩, .slice none 0 0]) 5 80 Tryz.underlying38 hi hz0 hz1 hz2 rfl (by decide) v n xs hs hown vx news hx hr h1 N hN hb (by decide) hbase h
theorem own_base {w : World} {base base' : Nat} {e : TypeId} {size n : Nat} {v : Value} {xs : List Value} (h : w.ownsRow base e size v n xs) (hb : base' ≤ base) : w.ownsRow base' e size v n xs := by
  obtain ⟨hl, ⟨rfl, rfl⟩ | ⟨g, cap, cur, rfl, hg, r⟩⟩ := h
  · exact ⟨hl, .inl ⟨rfl, rfl⟩⟩
  · exact ⟨hl, .inr ⟨g, cap, cur, rfl, by omega, r⟩⟩
/-- Witnesses beside a row of deeds: none lies in its block. -/
def WitR (w : World) (base : Nat) (ob : Option Nat) (ps : List (De × Value)) : Prop :=
  ∀ p ∈ ps, w.ownsRow base 9 1 p.2 p.1.wit.length (namesV p.1.wit) ∧ ∀ g, p.2.ownBlock = some g → ob ≠ some g
theorem WitR.below {w w' : World} {base : Nat} {ob : Option Nat} {ps : List (De × Value)} (h : WitR w base ob ps) (hb : Below w.heap.size w w') : WitR w' base ob ps :=
  fun p hp => ⟨own_below (h p hp).1 hb, (h p hp).2⟩
theorem WitR.alloc {w : World} {base : Nat} {ob : Option Nat} {ps : List (De × Value)} (h : WitR w base ob ps) (o : Obj) : WitR (w.alloc o) base ob ps :=
  fun p hp => ⟨own_alloc (h p hp).1, (h p hp).2⟩
theorem WitR.cell {w : World} {base : Nat} {ob : Option Nat} {ps : List (De × Value)} (h : WitR w base ob ps) {q : Addr} (hq : ∀ p ∈ ps, p.2.ownBlock ≠ some q.block) (x : Value) : WitR (w.setCell q x) base ob ps :=
  fun p hp => ⟨own_ne (h p hp).1 (hq p hp) x, (h p hp).2⟩
theorem WitR.own {w w' : World} {base : Nat} {ob ob' : Option Nat} {ps : List (De × Value)} (h : WitR w base ob ps) (hg : w.grownBy w' ob) (ho : ob' = ob ∨ ob' = some w.heap.size) : WitR w' base ob' ps :=
  fun p hp => ⟨own_keep (h p hp).1 hg (fun g e => (h p hp).2 g e), fun g e => by
    rcases ho with q | q
    · rw [q]; exact (h p hp).2 g e
    · rw [q]
      intro z
      have := own_lt (h p hp).1 e
      cases z
      omega⟩
set_option maxRecDepth 100000 in
set_option maxHeartbeats 4000000 in
theorem copyDeeds_any (v : Value) (ds : List De) (w : World) (h : DeedsV w v ds) (hw : WtDs ds) :
    Calls Tryz.prog 16 #[v] w fun e w' => Below w.heap.size w w' ∧ ∃ v', e = .returned v' ∧ DeedsV w' v' ds := by
  obtain ⟨A, c, rfl, h⟩ := h.shape
  obtain ⟨_, h1, h2⟩ := h.many
  have HD := Lib.hid (fun q => h.deed q)
  have HWt := Lib.hid hw
  clear h hw
  go_enter Tryz.func16, Tryz.ntmps16
  go_wp2
  go_loopw [3, 4] (fun v ti wr => ∃ (k : Nat) (ps : List (De × Value)), ti = .int .i64 k ∧ k ≤ ds.length ∧ Hid (ps.map (·.1) = ds.take k) ∧ Hid (wr.ownsRow w.heap.size 63 5 v k (deCells ps)) ∧ Hid (WitR wr w.heap.size v.ownBlock ps) ∧ Hid (Below w.heap.size w wr)) (fun _ ti _ => ds.length - (intOf ti).toNat)
  case atStart => exact ⟨0, [], rfl, by omega, rfl, World.ownsRow_nil _ _ _ _, (fun p hp => by cases hp), Below.refl _ _⟩
  case round =>
    obtain ⟨k, ps, rfl, hk, HP, HO, HR, HB⟩ := hrel
    by_cases hlt : k < ds.length
    · have hki : (k : Int) < (ds.length : Int) := by omega
      have hk0 : (0 : Int) ≤ (k : Int) := by omega
      obtain ⟨b0, o0, rfl, hb, hce⟩ := HD.out (by omega)
      have hget : ds[k]? = some ds[k] := List.getElem?_eq_getElem hlt
      obtain ⟨g0, g1, g2, g3, Aw, nw, cw, g4, hsw⟩ := hce k _ hget
      have HW16 := Lib.hid (HWt.out.2 _ (List.getElem_mem hlt))
      replace g0 := below_cell HB.out g0
      replace g1 := below_cell HB.out g1
      replace g2 := below_cell HB.out g2
      replace g3 := below_cell HB.out g3
      replace g4 := below_cell HB.out g4
      have HTk := Lib.hid (show ds.take (k + 1) = ds.take k ++ [ds[k]] by rw [List.take_add_one, hget]; rfl)
      have HW := Lib.hid (hsw.below HB.out)
      clear hce hget hsw
      generalize ds[k] = d at *
      obtain ⟨nm, yr, se, sl, wit⟩ := d
      simp only at g0 g1 g2 g3 g4 HW HW16
      have HOa := Lib.hid (HO.out.alloc (.cells #[.string nm, .int .i64 yr, .string se, .string sl, .slice Aw nw cw] 63))
      have HRa := Lib.hid (HR.out.alloc (.cells #[.string nm, .int .i64 yr, .string se, .string sl, .slice Aw nw cw] 63))
      have HWa := Lib.hid (HW.out.alloc (.cells #[.string nm, .int .i64 yr, .string se, .string sl, .slice Aw nw cw] 63))
      have HBa := Lib.hid (HB.out.alloc HB.out.size (.cells #[.string nm, .int .i64 yr, .string se, .string sl, .slice Aw nw cw] 63))
      have y0 := Cel.new wr 63 #[.string nm, .int .i64 yr, .string se, .string sl, .slice Aw nw cw]
      have HY := Lib.hid y0
      have HLo := Lib.hid (fun g (q : u3.ownBlock = some g) => own_lt HO.out q)
      have HLp := Lib.hid (fun p (hp : p ∈ ps) g (q : p.2.ownBlock = some g) => own_lt (HR.out p hp).1 q)
      have HBs := Lib.hid HB.out.size
      go_upto_region 6 with fail
      clear g0 g1 g2 g3 g4 y0
      have HSa := Lib.hid (show wr.heap.size + 1 ≤ (wr.alloc (.cells #[.string nm, .int .i64 yr, .string se, .string sl, .slice Aw nw cw] 63)).heap.size by simp)
      obtain ⟨B, hB⟩ : ∃ B, wr.heap.size = B := ⟨_, rfl⟩
      rw [hB] at HY HLo HLp HSa HBs
      generalize wr.alloc (.cells #[.string nm, .int .i64 yr, .string se, .string sl, .slice Aw nw cw] 63) = wa at *
      rw [hB]
      clear hB
      have c4 := HY.out.cell 4 (.slice Aw nw cw) rfl
      go_wp2_with fail
      refine (copyTexts_any _ wit wa HWa.out (by have := HW16.out; omega)).mono ?_
      rintro e w6 ⟨v6, rfl, hb6, ho6⟩
      obtain ⟨A6, c6, rfl⟩ := own_sl ho6
      have HB6 := Lib.hid (HBa.out.trans (hb6.mono HBa.out.size))
      have HO6 := Lib.hid (own_below HOa.out hb6)
      have HR6 := Lib.hid (HRa.out.below hb6)
      have HN6 := Lib.hid ho6
      have HG6 := Lib.hid (fun g (q : (Value.slice A6 wit.length c6).ownBlock = some g) => show B < g by have := own_ge ho6 q; have := HSa.out; omega)
      have y6 := HY.out.below HY.out.lt hb6
      have f4 := y6.frozen 4
      have k4 := y6.cell 4 (.slice Aw nw cw) rfl
      have HY7 := Lib.hid (y6.setAt 4 (.slice A6 wit.length c6))
      have HB7 := Lib.hid (HB6.out.setCell (p := ⟨B, 4, none⟩) (by show w.heap.size ≤ B; exact HBs.out) (.slice A6 wit.length c6))
      have HO7 := Lib.hid (own_ne HO6.out (p := ⟨B, 4, none⟩) (fun q => Nat.lt_irrefl _ (HLo.out _ q)) (.slice A6 wit.length c6))
      have HR7 := Lib.hid (HR6.out.cell (q := ⟨B, 4, none⟩) (fun p hp q => Nat.lt_irrefl _ (HLp.out p hp _ q)) (.slice A6 wit.length c6))
      have HN7 := Lib.hid (own_ne HN6.out (p := ⟨B, 4, none⟩) (fun q => Nat.lt_irrefl _ (HG6.out _ q)) (.slice A6 wit.length c6))
      clear hb6 ho6 c4 y6 HB6 HO6 HR6 HN6 HW HWa HRa HOa HR HO HB HBa
      go_upto_region 7 with fail
      clear f4 k4
      generalize w6.setCell ⟨B, 4, none⟩ (.slice A6 wit.length c6) = w7 at *
      have c0 := HY7.out.cell 0 (.string nm) rfl
      have c1 := HY7.out.cell 1 (.int .i64 yr) rfl
      have c2 := HY7.out.cell 2 (.string se) rfl
      have c3 := HY7.out.cell 3 (.string sl) rfl
      have c4 := HY7.out.cell 4 (.slice A6 wit.length c6) rfl
      have HO8 := Lib.hid (HO7.out.alloc (.cells #[.string nm, .int .i64 yr, .string se, .string sl, .slice A6 wit.length c6] 63))
      have HB8 := Lib.hid (HB7.out.alloc HB7.out.size (.cells #[.string nm, .int .i64 yr, .string se, .string sl, .slice A6 wit.length c6] 63))
      have HR8 := Lib.hid (HR7.out.alloc (.cells #[.string nm, .int .i64 yr, .string se, .string sl, .slice A6 wit.length c6] 63))
      have HN8 := Lib.hid (own_alloc HN7.out (o := .cells #[.string nm, .int .i64 yr, .string se, .string sl, .slice A6 wit.length c6] 63))
      have HS8 := Lib.hid (Sl.new (s := 5) w7 63 1 1 #[.string nm, .int .i64 yr, .string se, .string sl, .slice A6 wit.length c6] rfl (Nat.le_refl _) (by decide))
      have hcap := HWt.out.1
      go_wp2_with (at_builtin; refine appDeedB _ _ rfl rfl rfl rfl HO8.out HS8.out (deCells_one (⟨nm, yr, se, sl, wit⟩, .slice A6 wit.length c6) rfl) (N := k + 1) (by show k * 5 + 5 = (k + 1) * 5; omega) (by omega) HB8.out.size ?_; intro A9 c9 w9 hap)
      have HB9 := Lib.hid (below_of_own hap.grown HO8.out HB8.out (Nat.le_refl _))
      have HO9 := Lib.hid (show w9.ownsRow w.heap.size 63 5 (.slice A9 (k + 1) c9) (k + 1) (deCells (ps ++ [(⟨nm, yr, se, sl, wit⟩, .slice A6 wit.length c6)])) by rw [deCells_append]; exact hap.own)
      have HR9 := Lib.hid (show WitR w9 w.heap.size (Value.slice A9 (k + 1) c9).ownBlock (ps ++ [(⟨nm, yr, se, sl, wit⟩, .slice A6 wit.length c6)]) from by
        refine WitR.own (ob := u3.ownBlock) (fun p hp => ?_) hap.grown hap.block
        rcases List.mem_append.1 hp with q | q
        · exact HR8.out p q
        · rw [List.mem_singleton] at q
          rw [q]
          refine ⟨own_base HN8.out (by have := HSa.out; have := HBs.out; omega), fun g e z => ?_⟩
          have e1 := HG6.out g e
          have e2 := HLo.out g z
          omega)
      have HP9 := Lib.hid (show (ps ++ [((⟨nm, yr, se, sl, wit⟩ : De), Value.slice A6 wit.length c6)]).map (·.1) = ds.take (k + 1) by rw [List.map_append, HP.out, HTk.out]; rfl)
      clear hap c0 c1 c2 c3 c4 hcap
      go_wp2
      go_roundw
      case rel => exact ⟨k + 1, _, by go_num, by omega, HP9.out, HO9.out, HR9.out, HB9.out⟩
      case measure => simp [intOf]; omega
    · have HE := Lib.hid (show DeedsV wr u3 ds from ⟨ps, by rw [HP.out, List.take_of_length_le (by omega)], Sl.of_own HO.out, fun p hp => Sl.of_own (HR.out p hp).1⟩)
      go_wp2
      go_ret
      exact ⟨HB.out, _, rfl, HE.out⟩
end

section
open Go Go.RowKit Go.Shelf
attribute [local go_sem] Oper.semAt_some

set_option maxHeartbeats 1000000 in
/-- Equal texts: only the order's tape moves. -/
theorem eqTexts_q (a b : Value) (xs : List ByteArray) (w : World) (ha : Sl w 1 a (namesV xs)) (hb : Sl w 1 b (namesV xs)) :
    Calls Tryz.prog 21 #[a, b] w fun e w' => e = .returned (.bool true) ∧ ∃ m, w' = w.drewN m := by
  obtain ⟨A, c, rfl, hlc, hcm, hcell⟩ := ha.open1
  obtain ⟨A', c', rfl, hlc', hcm', hcell'⟩ := hb.open1
  simp only [namesV_length] at *
  have b1 : ((xs.length : Int) == (xs.length : Int)) = true := by simp
  have HC := Lib.hid hcell
  have HC' := Lib.hid hcell'
  clear hcell hcell' ha hb
  go_enter Tryz.func21, Tryz.ntmps21
  go_wp2
  go_loopw [5] (fun t wr => ∃ (k m : Nat), t = .int .i64 k ∧ k ≤ xs.length ∧ Hid (wr = w.drewN m)) (fun t _ => xs.length - (intOf t).toNat)
  case atStart => exact ⟨0, 0, rfl, by omega, rfl⟩
  case round =>
    obtain ⟨k, m, rfl, hk, HW⟩ := hrel
    have hW := HW.out
    subst hW
    clear HW
    by_cases hlt : k < xs.length
    · have hki : (k : Int) < (xs.length : Int) := by omega
      have hk0 : (0 : Int) ≤ (k : Int) := by omega
      obtain ⟨ad, rfl, e1⟩ := HC.out k (.string xs[k]) (by simp [namesV, List.getElem?_eq_getElem hlt])
      obtain ⟨ad', rfl, e2⟩ := HC'.out k (.string xs[k]) (by simp [namesV, List.getElem?_eq_getElem hlt])
      generalize xs[k] = x at *
      have b2 : (x.toList == x.toList) = true := by simp
      go_wp2
      go_quiet (fail)
      go_wp2
      exact ⟨⟨k + 1, m + nq, by go_num, by omega, by first | exact rfl | exact World.drewN_drewN _ _ _⟩, by simp [intOf]; omega⟩
    · go_wp2
      go_ret
      exact ⟨rfl, m, rfl⟩
set_option maxRecDepth 100000 in
set_option maxHeartbeats 8000000 in
theorem sameDeeds_any (v v2 : Value) (ds : List De) (w : World) (h : DeedsV w v ds) (h2 : DeedsV w v2 ds) :
    Calls Tryz.prog 22 #[v, v2] w fun e w' => e = .returned (.bool true) ∧ Below w.heap.size w w' := by
  obtain ⟨A, c, rfl, h⟩ := h.shape
  obtain ⟨A', c', rfl, h2⟩ := h2.shape
  obtain ⟨_, a1, a2⟩ := h.many
  obtain ⟨_, a3, a4⟩ := h2.many
  have HD := Lib.hid (fun q => h.deed q)
  have HD2 := Lib.hid (fun q => h2.deed q)
  have b1 : ((ds.length : Int) == (ds.length : Int)) = true := by simp
  clear h h2
  go_enter Tryz.func22, Tryz.ntmps22
  go_wp2
  go_loopw [5] (fun ti wr => ∃ k : Nat, ti = .int .i64 k ∧ k ≤ ds.length ∧ Hid (Below w.heap.size w wr)) (fun ti _ => ds.length - (intOf ti).toNat)
  case atStart => exact ⟨0, rfl, by omega, Below.refl _ _⟩
  case round =>
    obtain ⟨k, rfl, hk, HB⟩ := hrel
    by_cases hlt : k < ds.length
    · have hki : (k : Int) < (ds.length : Int) := by omega
      have hk0 : (0 : Int) ≤ (k : Int) := by omega
      obtain ⟨b0, o0, rfl, _, hce⟩ := HD.out (by omega)
      obtain ⟨b5, o5, rfl, _, hce2⟩ := HD2.out (by omega)
      have hget : ds[k]? = some ds[k] := List.getElem?_eq_getElem hlt
      obtain ⟨g0, g1, g2, g3, Aw, nw, cw, g4, hsw⟩ := hce k _ hget
      obtain ⟨e0, e1, e2, e3, Aw2, nw2, cw2, e4, hsw2⟩ := hce2 k _ hget
      replace g0 := below_cell HB.out g0
      replace g1 := below_cell HB.out g1
      replace g2 := below_cell HB.out g2
      replace g3 := below_cell HB.out g3
      replace g4 := below_cell HB.out g4
      replace e0 := below_cell HB.out e0
      replace e1 := below_cell HB.out e1
      replace e2 := below_cell HB.out e2
      replace e3 := below_cell HB.out e3
      replace e4 := below_cell HB.out e4
      have HQ := Lib.hid (fun n => (eqTexts_q (.slice Aw nw cw) (.slice Aw2 nw2 cw2) ds[k].wit (wr.drewN n) ((hsw.below HB.out).drewN n) ((hsw2.below HB.out).drewN n)).mono (R' := fun e w'' => e = .returned (.bool true) ∧ ∃ m, w'' = wr.drewN m) (fun e w'' q => ⟨q.1, by obtain ⟨m, hm⟩ := q.2; exact ⟨n + m, by rw [hm]; exact World.drewN_drewN _ _ _⟩⟩))
      clear hce hce2 hget hsw hsw2
      generalize ds[k] = d at *
      obtain ⟨nm, yr, se, sl, wit⟩ := d
      simp only at g0 g1 g2 g3 g4 e0 e1 e2 e3 e4
      go_upto_region 6 with fail
      go_quiet ((go_at_call 21; exact HQ.out _))
      go_wp2
      exact ⟨⟨k + 1, by go_num, by omega, below_drewN HB.out _⟩, by simp [intOf]; omega⟩
    · go_wp2
      go_ret
      exact ⟨rfl, HB.out⟩
end
end Go.Proofs.YtdmcopjbckelmaaGreatDoor
