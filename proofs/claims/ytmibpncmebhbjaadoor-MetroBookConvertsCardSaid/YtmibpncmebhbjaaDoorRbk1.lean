/- The reference's book in memory; the walks of at, behind. -/
import Derived.Test.YtmibpncmebhbjaaDoorWay2
import Derived.Test.YtmibpncmebhbjaaDoorRef5
import Derived.Test.YtmibpncmebhbjaaDoorFrac3
import Derived.Test.YtmibpncmebhbjaaDoorP9
import Derived.Test.YtmibpncmebhbjaaDoorVal3
import Derived.Deep.RegionLaw
namespace Go.Proofs.YtmibpncmebhbjaaDoor
open Go Go.RowKit Go.Shelf
attribute [local go_sem] Oper.semAt_some

/-- The reference's book. -/
structure RBk (w : World) (Bk : Nat) (lv bv : Value) (ls : List La) (bs : List Br) : Prop where
  blk : Cel w Bk 146 #[lv, bv]
  lads : LadsV w lv ls
  brs : Sl w 6 bv (brsV bs)
theorem RBk.below {w w' : World} {Bk : Nat} {lv bv : Value} {ls : List La} {bs : List Br} (h : RBk w Bk lv bv ls bs) (hb : Below w.heap.size w w') : RBk w' Bk lv bv ls bs :=
  ⟨h.blk.below h.blk.lt hb, h.lads.below hb, h.brs.below hb⟩

set_option maxRecDepth 100000 in
set_option maxHeartbeats 1000000 in
theorem at_any (Bk : Nat) (lv bv : Value) (ls : List La) (nm : ByteArray) (w : World) (hc : Cel w Bk 146 #[lv, bv]) (hl : LadsV w lv ls) (hm : ls.length ≤ 32) :
    Calls Tryd.prog 107 #[.pointer (some ⟨Bk, 0, none⟩), .string nm] w fun e w' => e = .returned (.int .i64 (atI ls nm)) ∧ w = w' := by
  obtain ⟨A, c, rfl, hlc, hcm, hlk⟩ := hl.open
  have q0 := hc.cell 0 _ rfl
  have HLK := Lib.hid hlk
  have HH := Lib.hid (fun k h h1 h2 => atI_hit (nm := nm) (ls := ls) (k := k) h h1 h2)
  have HNO := Lib.hid (fun h2 => atI_none (nm := nm) (ls := ls) h2)
  clear hlk hl hc
  go_enter Tryd.func107, Tryd.ntmps107
  go_wp2
  go_loop [5] (fun t => ∃ k : Nat, t = .int .i64 k ∧ k ≤ ls.length ∧ Hid (∀ i (hi : i < ls.length), i < k → ls[i].nm ≠ nm)) (fun t => ls.length - (intOf t).toNat)
  case atStart => exact ⟨0, rfl, by omega, fun i _ h => by omega⟩
  case round =>
    obtain ⟨k, rfl, hk, HNE⟩ := hrel
    by_cases hlt : k < ls.length
    · obtain ⟨b, o, A', c', rfl, _, h1, h2, _⟩ := HLK.out k hlt
      have hs1 : Hid (ls[k].nm = nm → atI ls nm = (k : Int)) := fun e => HH.out k hlt e HNE.out
      have hs2 : Hid (ls[k].nm ≠ nm → ∀ i (hi : i < ls.length), i < k + 1 → ls[i].nm ≠ nm) := fun e i hi hik => by
        by_cases ek : i = k
        · subst ek; exact e
        · exact HNE.out i hi (by omega)
      clear h2
      generalize ls[k].nm = x at *
      have hb : (x.toList == nm.toList) = decide (x = nm) := bytes_toList_beq x nm
      by_cases e : x = nm
      · rw [decide_eq_true e] at hb
        have HR := Lib.hid (hs1.out e)
        clear e
        go_wp2
        go_ret
        exact ⟨by rw [HR.out] <;> rfl, rfl⟩
      · rw [decide_eq_false e] at hb
        have HR := Lib.hid (hs2.out e)
        clear e
        go_wp2
        go_round
        case rel => exact ⟨k + 1, by go_num, hlt, HR.out⟩
        case measure => simp [intOf]; omega
    · have HR := Lib.hid (HNO.out (fun i hi => HNE.out i hi (by omega)))
      go_wp2
      go_ret
      exact ⟨by rw [HR.out] <;> rfl, rfl⟩
/-- Steps as cells. -/
def stepsV (l : List (Nat × Bool)) : List Value := l.flatMap fun s => [.int .i64 (s.1 : Int), .bool s.2]
theorem stepsV_append (l m : List (Nat × Bool)) : stepsV (l ++ m) = stepsV l ++ stepsV m := by simp [stepsV]
theorem stepsV_length (l : List (Nat × Bool)) : (stepsV l).length = l.length * 2 := by
  induction l with
  | nil => rfl
  | cons u us ih => simp only [stepsV, List.flatMap_cons, List.length_append] at ih ⊢; rw [ih]; simp; omega
theorem stepsV_get {l : List (Nat × Bool)} {k : Nat} (hk : k < l.length) : (stepsV l)[k * 2]? = some (.int .i64 (l[k].1 : Int)) ∧ (stepsV l)[k * 2 + 1]? = some (.bool l[k].2) := by
  induction l generalizing k with
  | nil => simp at hk
  | cons u us ih =>
    have e : stepsV (u :: us) = .int .i64 (u.1 : Int) :: .bool u.2 :: stepsV us := rfl
    cases k with
    | zero => rw [e]; simp
    | succ k =>
      have := ih (k := k) (by simpa using hk)
      rw [e, show (k + 1) * 2 = k * 2 + 1 + 1 from by omega]
      simpa using this
theorem stepsV_one (l : List (Nat × Bool)) : ∀ u ∈ stepsV l, u.oneCell' = true := by
  intro u hu
  obtain ⟨b, _, h⟩ := List.mem_flatMap.1 hu
  simp at h
  rcases h with rfl | rfl <;> rfl
theorem infoStp : (Tryd.prog.info? 169).map (fun i => (i.zero, i.size, i.bytes)) = some (some (.agg #[.int .i64 0, .bool false]), 2, 16) := by kernel_rfl
theorem infoWay : (Tryd.prog.info? 165).map (fun i => (i.zero, i.size, i.bytes)) = some (some (.agg #[.int .i64 0, .slice none 0 0]), 2, 32) := by kernel_rfl
section
variable {a : Act} {w : World} {ops : Array Oper} {rest : List Oper} {o : Oper} {Q : Exit → Act → World → Prop} {K : Act → World → Prop} {E : Prop}
theorem stepStp (s x : Operand) (hgd : o.guard = none) (ho : o.op = .call { callee := .builtin .append, args := #[s, x], argTypes := #[151, 151] })
    {base n : Nat} {v vx : Value} {xs news : List Value} (hs : a.eval s = v) (hx : a.eval x = vx) (hown : w.ownsRow base 169 2 v n xs) (hr : Sl w 2 vx news) (h1 : ∀ u ∈ news, u.oneCell' = true)
    {N : Nat} (hN : n * 2 + news.length = N * 2) (hb : N ≤ 1759218604441) (hbase : base ≤ w.heap.size)
    (h : ∀ A c w', Appended base 169 2 v xs news w w' A N c → K (a.put o.dst (.slice A N c)) w') : if Region.wanted o (yielded ops a.tmps) = true then Oper.wp Tryd.prog o a w K Q else E := by
  obtain ⟨i, hi, hz0, hz1, hz2⟩ := info_parts infoStp
  exact step_app w hgd s x 151 ho base 169 i _ 2 16 Tryd.underlying151 hi hz0 hz1 hz2 rfl (by decide) v n xs hs hown vx news hx hr h1 N hN (by omega) (by decide) hbase h
theorem appWay (s x : Operand) (hgd : o.guard = none) (ho : o.op = .call { callee := .builtin .append, args := #[s, x], argTypes := #[166, 166] })
    {base n : Nat} {v vx : Value} {xs news : List Value} (hs : a.eval s = v) (hx : a.eval x = vx) (hown : w.ownsRow base 165 2 v n xs) (hr : Sl w 2 vx news) (h1 : ∀ u ∈ news, u.oneCell' = true)
    {N : Nat} (hN : n * 2 + news.length = N * 2) (hb : N ≤ 1759218604441) (hbase : base ≤ w.heap.size)
    (h : ∀ A c w', Appended base 165 2 v xs news w w' A N c → wpList Tryd.prog ops Q rest (a.put o.dst (.slice A N c)) w') : wpList Tryd.prog ops Q (o :: rest) a w := by
  obtain ⟨i, hi, hz0, hz1, hz2⟩ := info_parts infoWay
  exact wpList_app w hgd s x 166 ho base 165 i _ 2 32 Tryd.underlying166 hi hz0 hz1 hz2 rfl (by decide) v n xs hs hown vx news hx hr h1 N hN (by omega) (by decide) hbase h
end

set_option maxRecDepth 100000 in
set_option maxHeartbeats 2000000 in
theorem behind_any (v : Value) (l : List (Nat × Bool)) (b : Nat) (q : Bool) (w : World) (hv : Sl w 2 v (stepsV l)) (hlen : l.length ≤ 100000) :
    Calls Tryd.prog 129 #[v, .agg #[.int .i64 (b : Int), .bool q]] w fun e w' => ∃ A c, e = .returned (.slice A (l.length + 1) c) ∧ w'.ownsRow w.heap.size 169 2 (.slice A (l.length + 1) c) (l.length + 1) (stepsV (l ++ [(b, q)])) ∧ Below w.heap.size w w' := by
  have Y := Cel.new w 169 #[.int .i64 (b : Int), .bool q]
  have hB0 := below_alloc' w (.cells #[.int .i64 (b : Int), .bool q] 169)
  obtain ⟨A, n, c, rfl, hm, hmc, hcm, _⟩ := hv.open2 (by decide)
  rw [stepsV_length] at hm
  obtain rfl : n = l.length := by omega
  clear hm
  go_enter Tryd.func129, Tryd.ntmps129
  go_upto_region 2 with fail
  obtain ⟨W, hW⟩ : ∃ W, w.alloc (.cells #[.int .i64 (b : Int), .bool q] 169) = W := ⟨_, rfl⟩
  have hWs : W.heap.size = w.heap.size + 1 := by rw [← hW]; simp
  rw [hW] at Y hB0 ⊢
  have HY := Lib.hid Y
  have HB0 := Lib.hid hB0
  have HW := Lib.hid hWs
  have HV := Lib.hid (hv.below hB0)
  have HNN := Lib.hid (stepsV_length l)
  have HC0 := Lib.hid (stepsV_one l)
  have HST := Lib.hid (stepsV_append l [(b, q)])
  have hU0 := Lib.hid (Below.refl W.heap.size W)
  have HEX : Hid (∀ w', Below W.heap.size W w' → w'.cell? ⟨w.heap.size, 0, none⟩ = some (.int .i64 (b : Int)) ∧ w'.cell? ⟨w.heap.size, 1, none⟩ = some (.bool q)) := fun w' hb => by
    have h1 := HY.out.below HY.out.lt hb
    exact ⟨h1.cell 0 _ rfl, h1.cell 1 _ rfl⟩
  obtain ⟨x0, x1⟩ := HEX.out W (Below.refl _ _)
  clear hW Y hB0 hWs hv
  go_region_held3 (fun w' => w'.cell? ⟨w.heap.size, 0, none⟩ = some (.int .i64 (b : Int)) ∧ w'.cell? ⟨w.heap.size, 1, none⟩ = some (.bool q)) (first | exact ⟨f0, f1⟩ | exact HEX.out _ (by (repeat (first | exact hU0.out | exact HB5.out | exact HB6.out | refine below_drew ?_ | refine Below.alloc ?_ (by first | omega | (simp; done) | (simp; omega)) _)); done) | go_keep)
    (first
    | (refine stepStp (base := W.heap.size) (.tmp 6) (.tmp 7) rfl rfl (by rfl) (by rfl) (World.ownsRow_nil _ _ _ _) (HV.out.below (by (repeat (first | exact hU0.out | refine below_drew ?_ | refine Below.alloc ?_ (by first | omega | (simp; done) | (simp; omega)) _)); done)) HC0.out (N := l.length) (by rw [HNN.out]; omega) (by omega) (by first | omega | (simp; done) | (simp; omega)) ?_; intro A3 c3 w5 hap; have hB5 : Below W.heap.size W w5 := (by refine Below.grown ?_ hap.grown (by first | omega | (simp; done) | (simp; omega)) (fun g hg => by simp [Value.ownBlock] at hg); repeat (first | exact hU0.out | refine below_drew ?_ | refine Below.alloc ?_ (by first | omega | (simp; done) | (simp; omega)) _)); have HB5 := Lib.hid hB5; have HO5 := Lib.hid hap.own; (first | (have hq := (show Cel (World.alloc (World.drew W) (.cells #[.int .i64 (b : Int), .bool q] 169)) W.heap.size 169 #[.int .i64 (b : Int), .bool q] from Cel.new W _ _).kept hap.grown (by simp [Value.ownBlock]); have HLIT := Lib.hid (Cel.sl (s := 2) (m := 1) (cap := 1) hq rfl rfl (Nat.le_refl _) (by decide)); clear hq) | skip); obtain ⟨f0, f1⟩ := HEX.out _ hB5; have hs5 := hB5.size; clear hB5 hap)
    | (refine stepStp (base := W.heap.size) (.tmp 8) (.tmp 10) rfl rfl (by rfl) (by rfl) (by first | exact HO5.out | exact own_alloc HO5.out) (by first | exact HLIT.out | exact Sl.new (s := 2) _ 169 1 1 #[.int .i64 (b : Int), .bool q] rfl (Nat.le_refl _) (by decide)) (by simp [Value.oneCell']) (N := l.length + 1) (by simp; omega) (by omega) (by first | omega | (simp; done) | (simp; omega)) ?_; intro A4 c4 w6 hap; have hB6 : Below W.heap.size W w6 := (by refine Below.grown ?_ hap.grown (by first | omega | (simp; done) | (simp; omega)) (fun g hg => own_ge HO5.out hg); repeat (first | exact HB5.out | refine below_drew ?_ | refine Below.alloc ?_ (by first | omega | (simp; done) | (simp; omega)) _)); have HB6 := Lib.hid hB6; have HO6 := Lib.hid hap.own; obtain ⟨f0, f1⟩ := HEX.out _ hB6; have hs6' := hB6.size; clear hB6 hap))
  all_goals (
    go_wp2
    go_ret
    refine ⟨_, _, rfl, ?_, below_then HB0.out HB6.out⟩
    rw [HST.out]
    have hq := own_base HO6.out (show w.heap.size ≤ W.heap.size by rw [HW.out]; omega)
    rw [List.nil_append] at hq
    exact hq)
end Go.Proofs.YtmibpncmebhbjaaDoor
