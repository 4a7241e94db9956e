/- Walks of the package date: how long a month is, the months of a calendar. Conditions: those stated. -/
import Derived.Test.YthpjeclhignciaaDoorTA
import Derived.Test.YthpjeclhignciaaDoorCal1
import Derived.LoopNIn
import Derived.LoopIn
import Derived.TacticsInMore
namespace Go.Proofs.YthpjeclhignciaaDoor
open Go Go.RowKit Go.Shelf
attribute [local go_sem] Oper.semAt_some

theorem and1_all : (List.range 8192).all (fun n => bits .and .i64 ((n : Nat) : Int) 1 == ((n % 2 : Nat) : Int)) = true := by decide +kernel
theorem and1 {x : Int} (h0 : 0 ≤ x) (h1 : x ≤ 8191) : bits .and .i64 x 1 = x % 2 := by
  obtain ⟨n, rfl⟩ := Int.eq_ofNat_of_zero_le h0
  have := List.all_eq_true.1 and1_all n (List.mem_range.2 (by omega))
  rw [beq_iff_eq.1 this]; omega
theorem div_bd {x : Int} (h0 : 0 ≤ x) (h1 : x ≤ 8191) (k : Nat) : 0 ≤ x / 2 ^ k ∧ x / 2 ^ k ≤ 8191 := by
  have hp : (0 : Int) < 2 ^ k := Int.pow_pos (by decide)
  exact ⟨Int.ediv_nonneg h0 (by omega), Int.le_trans (Int.ediv_le_self _ h0) h1⟩
theorem len_bit {long : Int} (h1 : 0 ≤ long) (h2 : long ≤ 8191) (k : Nat) : (bits .and .i64 (long / 2 ^ k) 1 == 1) = decide (long / 2 ^ k % 2 = 1) := by
  obtain ⟨a, b⟩ := div_bd h1 h2 k
  rw [and1 a b]
  by_cases h : long / 2 ^ k % 2 = 1 <;> simp [h]

set_option maxHeartbeats 400000 in
theorem length_any (y : Yr) (num : Nat) (sec : Bool) (w : World) (h1 : 0 ≤ y.long) (h2 : y.long ≤ 8191) (h3 : 1 ≤ num) (h4 : num ≤ 12) :
    Calls Tryd.prog 42 #[.agg #[.int .i64 y.king, .string y.name, .int .i64 y.long, .int .i64 y.dbl], .int .i64 (num : Int), .bool sec] w fun e w' => e = .returned (.int .i64 (lenF y.long num sec)) ∧ Below w.heap.size w w' := by
  cases sec with
  | false =>
    have HB := Lib.hid (len_bit h1 h2 (num - 1))
    have HL := Lib.hid (show lenF y.long num false = if y.long / 2 ^ (num - 1) % 2 = 1 then 30 else 29 from rfl)
    go_enter Tryd.func42, Tryd.ntmps42
    go_wp2
    all_goals
      have hx := ‹(bits BinOp.and IntKind.i64 (y.long / 2 ^ (num - 1)) 1 == 1) = _›
      rw [HB.out] at hx
      go_ret
      exact ⟨by rw [HL.out]; first | (rw [if_pos (of_decide_eq_true hx)]; rfl) | (rw [if_neg (of_decide_eq_false hx)]; rfl), below_alloc' _ _⟩
  | true =>
    have HB := Lib.hid (len_bit h1 h2 12)
    have HL := Lib.hid (show lenF y.long num true = if y.long / 2 ^ 12 % 2 = 1 then 30 else 29 from rfl)
    go_enter Tryd.func42, Tryd.ntmps42
    go_wp2
    all_goals
      have hx := ‹(bits BinOp.and IntKind.i64 (y.long / 4096) 1 == 1) = _›
      rw [show (y.long / 4096 : Int) = y.long / 2 ^ 12 from rfl, HB.out] at hx
      go_ret
      exact ⟨by rw [HL.out]; first | (rw [if_pos (of_decide_eq_true hx)]; rfl) | (rw [if_neg (of_decide_eq_false hx)]; rfl), below_alloc' _ _⟩

/-- A year's numbers are ints. -/
def YB (y : Yr) : Prop := Bd y.king ∧ (y.name.size : Int) ≤ 9223372036854775807 ∧ Bd y.long ∧ Bd y.dbl
def yrV (y : Yr) : List Value := [.int .i64 y.king, .string y.name, .int .i64 y.long, .int .i64 y.dbl]
def yearsV (ys : List Yr) : List Value := ys.flatMap yrV
theorem yearsV_length (ys : List Yr) : (yearsV ys).length = ys.length * 4 := by
  induction ys with
  | nil => rfl
  | cons u us ih => simp only [yearsV, List.flatMap_cons, List.length_append] at ih ⊢; rw [ih]; simp [yrV]; omega
theorem yearsV_get {ys : List Yr} {k : Nat} (hk : k < ys.length) : (yearsV ys)[k * 4]? = some (.int .i64 ys[k].king) ∧ (yearsV ys)[k * 4 + 1]? = some (.string ys[k].name) ∧ (yearsV ys)[k * 4 + 2]? = some (.int .i64 ys[k].long) ∧ (yearsV ys)[k * 4 + 3]? = some (.int .i64 ys[k].dbl) := by
  induction ys generalizing k with
  | nil => simp at hk
  | cons u us ih =>
    have e : yearsV (u :: us) = .int .i64 u.king :: .string u.name :: .int .i64 u.long :: .int .i64 u.dbl :: yearsV us := rfl
    cases k with
    | zero => rw [e]; simp
    | succ k =>
      have := ih (k := k) (by simpa using hk)
      rw [e, show (k + 1) * 4 = k * 4 + 1 + 1 + 1 + 1 from by omega]
      simpa using this
def moV (m : Mo) : Array Value := #[.agg #[.int .i64 (m.yr : Int), .int .i64 (m.num : Int), .bool m.sec], .int .i64 m.day]

/-- What lay below n, and all cells from c on, are as they were. -/
structure KeepK (n c : Nat) (W W' : World) : Prop where
  below : Below n W W'
  cells : ∀ (k : Nat) (o : Obj), c ≤ k → W.heap[k]? = some o → o.isCells = true → W'.heap[k]? = some o
theorem keepK_t {n c : Nat} {A B C : World} (h : KeepK n c A B) (k : KeepK n c B C) : KeepK n c A C :=
  ⟨h.below.trans k.below, fun j o hj ho hc => k.cells j o hj (h.cells j o hj ho hc) hc⟩
theorem keepK_b {n c : Nat} {w : World} (hn : n ≤ w.heap.size) (W : World) (l : Nat) (o o' : Obj) (hl : w.heap.size ≤ l) (h : W.heap[l]? = some o) (h1 : o.isCells = false) (h2 : o.isWalk = false) : KeepK n c W (W.putObj l o') :=
  ⟨belowK_b hn W l o o' hl h h1 h2, fun j x _ hx hc => by
    by_cases e : j = l
    · subst e; rw [h] at hx; cases hx; rw [h1] at hc; cases hc
    · exact ((grownBy_putObj' W l o').block j (Array.getElem?_eq_some_iff.1 hx).1 (fun e' => e (by cases e'; rfl))).trans hx⟩
theorem Cel.keepK {n c B : Nat} {W W' : World} {t : TypeId} {vs : Array Value} (h : Cel W B t vs) (hk : KeepK n c W W') (hc : c ≤ B) : Cel W' B t vs := hk.cells B _ hc h rfl

theorem mo_bd {k n : Nat} {y : Yr} {d : Int} (h0 : 1 ≤ d) (hd : d ≤ 1 + 720 * k + 60 * n) (sec : Bool) : 1 ≤ d + lenF y.long (n + 1) sec ∧ d + lenF y.long (n + 1) sec ≤ 1 + 720 * k + 60 * n + 30 := by
  have := lenF_bd y.long (n + 1) sec
  omega
set_option maxRecDepth 100000 in
set_option maxHeartbeats 2000000 in
/-- The iterator over the months of a calendar, for every loop body that keeps what lay below n₀ and all cells from c on. -/
theorem months1_in (n : Nat) (hn : 1 ≤ n) (l Bl n₀ c : Nat) (sv : Value) (ys : List Yr) (hok : ∀ y ∈ ys, 0 ≤ y.long ∧ y.long ≤ 8191) (hlen : ys.length ≤ 400) (J Jx : List Mo → World → Prop)
    (hY : ∀ pre x W, J pre W → x ∈ mos ys → pre.length < 24 * ys.length → YieldAt Fence.wide (n - 1) Tryd.prog l (moV x) W fun e W' =>
      (e = .returned (.bool true) ∧ J (pre ++ [x]) W' ∧ KeepK n₀ c W W') ∨ (e = .returned (.bool false) ∧ Jx (pre ++ [x]) W'))
    (W : World) (hn₀ : n₀ ≤ W.heap.size) (hc : c ≤ W.heap.size) (hJ : ∀ pre A B, J pre A → A.grownBy B none → J pre B)
    (c1 : W.cell? ⟨Bl, 1, none⟩ = some sv) (hbl : ∀ W', Below n₀ W W' → Sl W' 4 sv (yearsV ys)) (h0 : J [] W) :
    CallsIn Fence.wide n Tryd.prog 43 #[.func (.yield l) #[] #[], .pointer (some ⟨Bl, 0, none⟩)] W fun e W' => (∃ v, e = .returned v) ∧
      ((∃ zs, zs = mos ys ∧ J zs W') ∨ (∃ pre, pre <+: mos ys ∧ Jx pre W')) := by
  have hsl := hbl W (Below.refl _ _)
  obtain ⟨A, m, cp, rfl, hm, hmc, hcm, hcell⟩ := hsl.open2 (by decide)
  clear hsl
  have hml : m = ys.length := by rw [yearsV_length] at hm; omega
  subst hml
  refine callsIn_of_wp Tryd.func43 rfl trivial ?_ rfl
  simp only [Tryd.ntmps43, List.size_toArray, List.length_cons, List.length_nil, Nat.reduceAdd, Nat.reduceSub, Array.replicate_succ, Array.replicate_zero, List.push_toArray, List.append_toArray, List.nil_append, List.cons_append]
  gi_wp2
  gi_loopw [3, 10] (fun t i wr => ∃ (k : Nat) (d : Int) (pre : List Mo), k ≤ ys.length ∧ i = .int .i64 k ∧ t = .int .i64 d ∧ 1 ≤ d ∧ d ≤ 1 + 720 * k ∧ pre.length ≤ 24 * k ∧ mos ys = pre ++ mosL (ys.drop k) k d ∧ J pre wr ∧ Below n₀ W wr ∧ W.heap.size ≤ wr.heap.size) (fun _ i _ => ys.length - (intOf i).toNat)
  case atStart => exact ⟨0, 1, [], by omega, rfl, rfl, by decide, by decide, by simp, rfl, h0, Below.refl _ _, Nat.le_refl _⟩
  case round =>
    obtain ⟨k, d, pre, hk, rfl, rfl, hd1, hd2, hpl, hmo, hJs, hnx, hsz⟩ := hrel
    have HB := Lib.hid hbl
    have HJ := Lib.hid hJ
    have HY := Lib.hid hY
    have HM := Lib.hid hmo
    have HOK := Lib.hid hok
    clear hbl hJ hY hmo hok
    by_cases hlt : k < ys.length
    · clear hcell
      have hs := HB.out wr hnx
      obtain ⟨A', n', c', e, _, _, _, hcl⟩ := hs.open2 (by decide)
      cases e
      obtain ⟨b, o, e, hb, hce⟩ := hcl (by omega)
      cases e
      obtain ⟨g0, g1, g2, g3⟩ := yearsV_get hlt
      have e0 := hce _ _ g0
      have e1 := hce _ _ g1
      have e2 := hce _ _ g2
      have e3 := hce _ _ g3
      rw [← Nat.add_assoc] at e1 e2 e3
      have hyk := HOK.out ys[k] (List.getElem_mem _)
      have HD := Lib.hid (List.drop_eq_getElem_cons hlt)
      clear hce g0 g1 g2 g3 hs hcl
      generalize ys[k] = y at *
      obtain ⟨hl1, hl2⟩ := hyk
      have hY0 := Cel.new wr 51 #[.int .i64 y.king, .string y.name, .int .i64 y.long, .int .i64 y.dbl]
      have hJ0 := HJ.out _ _ _ hJs (World.grownBy_alloc wr (.cells #[.int .i64 y.king, .string y.name, .int .i64 y.long, .int .i64 y.dbl] 51) none)
      have hn0 := hnx.alloc (by omega) (.cells #[.int .i64 y.king, .string y.name, .int .i64 y.long, .int .i64 y.dbl] 51)
      have hs0 : W.heap.size ≤ (wr.alloc (.cells #[.int .i64 y.king, .string y.name, .int .i64 y.long, .int .i64 y.dbl] 51)).heap.size := by simp; omega
      have hM0 := HM.out
      rw [HD.out, mosL, ← List.append_assoc] at hM0
      gi_wp2
      obtain ⟨Wy, hWy⟩ : ∃ Wy, wr.alloc (.cells #[.int .i64 y.king, .string y.name, .int .i64 y.long, .int .i64 y.dbl] 51) = Wy := ⟨_, rfl⟩
      rw [hWy] at hY0 hJ0 hn0 hs0 ⊢
      obtain ⟨By, hBy⟩ : ∃ By, wr.heap.size = By := ⟨_, rfl⟩
      rw [hBy] at hY0 hsz ⊢
      clear hWy hBy e0 e1 e2 e3 hb hnx hJs HM
      gi_loopw [3, 6] (fun t i wi => ∃ (n' : Nat) (j : Nat) (d' : Int) (pre' : List Mo), j + n' = 13 ∧ 1 ≤ n' ∧ i = .int .i64 (n' : Int) ∧ t = .int .i64 d' ∧ 1 ≤ d' ∧ d' ≤ 1 + 720 * k + 60 * (n' - 1) ∧ pre'.length ≤ 24 * k + 2 * (n' - 1) ∧
        mos ys = (pre' ++ mosY k y j n' d') ++ mosL (ys.drop (k + 1)) (k + 1) (endY y j n' d') ∧ J pre' wi ∧ Below n₀ W wi ∧ W.heap.size ≤ wi.heap.size ∧ Cel wi By 51 #[.int .i64 y.king, .string y.name, .int .i64 y.long, .int .i64 y.dbl]) (fun _ i _ => 13 - (intOf i).toNat)
      case atStart => exact ⟨1, 12, d, pre, rfl, by omega, rfl, rfl, hd1, by omega, by omega, hM0, hJ0, hn0, hs0, hY0⟩
      case round =>
        clear hM0 hJ0 hn0 hs0 hY0 hpl
        obtain ⟨n', j, d', pre', hjn, hn1, rfl, rfl, hd1', hd2', hpl, hmo, hJs, hnx, hsi, hcy⟩ := hrel
        have HM := Lib.hid hmo
        clear hmo
        have y0 := hcy.cell 0 _ rfl
        have y1 := hcy.cell 1 _ rfl
        have y2 := hcy.cell 2 _ rfl
        have y3 := hcy.cell 3 _ rfl
        have hBy := hcy.lt
        by_cases hlt' : n' ≤ 12
        · obtain ⟨j, rfl⟩ : ∃ j', j = j' + 1 := ⟨j - 1, by omega⟩
          obtain ⟨b1, b2⟩ := lenF_bd y.long n' false
          obtain ⟨b3, b4⟩ := lenF_bd y.long n' true
          have hy := HY.out pre' ⟨k, n', false, d', lenF y.long n' false⟩ wr hJs (by rw [HM.out, mosY]; split <;> simp) (by omega)
          obtain ⟨fn, tmps, assign, body, hy, hR⟩ := hy
          dsimp only [moV] at hy
          have HR := Lib.hid hR
          clear hR
          by_cases hdb : y.dbl = (n' : Int)
          · have hdb1 : (y.dbl == (n' : Int)) = true := by simpa using hdb
            have hdb2 : (y.dbl != (n' : Int)) = false := by simpa using hdb
            have HX := Lib.hid (show mos ys = (((pre' ++ [⟨k, n', false, d', lenF y.long n' false⟩]) ++ [⟨k, n', true, d' + lenF y.long n' false, lenF y.long n' true⟩]) ++ mosY k y j (n' + 1) (d' + lenF y.long n' false + lenF y.long n' true)) ++ mosL (ys.drop (k + 1)) (k + 1) (endY y j (n' + 1) (d' + lenF y.long n' false + lenF y.long n' true)) by
              rw [HM.out, mosY, endY, if_pos hdb, if_pos hdb]; simp)
            clear hdb
            gi_wp2
            refine HR.out.mono ?_
            rintro e W3 (⟨rfl, hJ3, hk3⟩ | ⟨rfl, hJx3⟩)
            · have hcy3 := hcy.keepK hk3 (by omega)
              have z0 := hcy3.cell 0 _ rfl
              have z1 := hcy3.cell 1 _ rfl
              have z2 := hcy3.cell 2 _ rfl
              have z3 := hcy3.cell 3 _ rfl
              clear y0 y1 y2 y3
              have hlv := fun w' => callsIn_wide (n := n - 1).2 (length_any y n' false w' hl1 hl2 hn1 hlt')
              have HR2 := Lib.hid (fun W4 (hb4 : Below W3.heap.size W3 W4) => HY.out _ ⟨k, n', true, d' + lenF y.long n' false, lenF y.long n' true⟩ W4 (HJ.out _ _ _ hJ3 (grown_of_below hb4 none)) (by rw [HX.out]; simp) (by simp; omega))
              gi_wp2_with (refine ⟨trivial, ?_⟩; gi_at_call 42; refine (hlv _).mono ?_; rintro e W4 ⟨rfl, hb4⟩; have hcy4 := hcy3.below hcy3.lt hb4; have z3 := hcy4.cell 3 _ rfl; have hy2 := HR2.out W4 hb4; obtain ⟨fn2, tmps2, assign2, body2, hy2, hR2⟩ := hy2; dsimp only [moV] at hy2; have HR3 := Lib.hid hR2; clear hR2)
              refine HR3.out.mono ?_
              rintro e W5 (⟨rfl, hJ5, hk5⟩ | ⟨rfl, hJx5⟩)
              · have hcy5 := hcy4.keepK hk5 (by omega)
                have z0 := hcy5.cell 0 _ rfl
                have z1 := hcy5.cell 1 _ rfl
                have z2 := hcy5.cell 2 _ rfl
                have z3 := hcy5.cell 3 _ rfl
                have hlv := fun w' => callsIn_wide (n := n - 1).2 (length_any y n' true w' hl1 hl2 hn1 hlt')
                gi_wp2_with (refine ⟨trivial, ?_⟩; gi_at_call 42; refine (hlv _).mono ?_; rintro e W6 ⟨rfl, hb6⟩; have hcy6 := hcy5.below hcy5.lt hb6; have z3 := hcy6.cell 3 _ rfl)
                have s3 := hk3.below.size
                have s4 := hb4.size
                have s5 := hk5.below.size
                have s6 := hb6.size
                go_roundw
                case rel => exact ⟨n' + 1, j, d' + lenF y.long n' false + lenF y.long n' true, _, by omega, by omega, by go_num, rfl, by omega, by omega, by simp; omega, HX.out, HJ.out _ _ _ hJ5 (grown_of_below hb6 none), (((hnx.trans hk3.below).trans (hb4.mono (by have := hnx.size; omega))).trans hk5.below).trans (hb6.mono (by have := hnx.size; omega)), by omega, hcy6⟩
                case measure => simp [intOf]; omega
              · gi_wp2
                refine bodyPost_ret (results_none rfl _ _ _) rfl ?_
                exact ⟨⟨_, rfl⟩, .inr ⟨_, ⟨_, by rw [HX.out]; simp only [List.append_assoc]; rfl⟩, hJx5⟩⟩
            · gi_wp2
              refine bodyPost_ret (results_none rfl _ _ _) rfl ?_
              exact ⟨⟨_, rfl⟩, .inr ⟨_, ⟨_, by rw [HX.out]; simp only [List.append_assoc]; rfl⟩, hJx3⟩⟩
          · have hdb1 : (y.dbl == (n' : Int)) = false := by simpa using hdb
            have hdb2 : (y.dbl != (n' : Int)) = true := by simpa using hdb
            have HX := Lib.hid (show mos ys = ((pre' ++ [⟨k, n', false, d', lenF y.long n' false⟩]) ++ mosY k y j (n' + 1) (d' + lenF y.long n' false)) ++ mosL (ys.drop (k + 1)) (k + 1) (endY y j (n' + 1) (d' + lenF y.long n' false)) by
              rw [HM.out, mosY, endY, if_neg hdb, if_neg hdb]; simp)
            clear hdb
            gi_wp2
            refine HR.out.mono ?_
            rintro e W3 (⟨rfl, hJ3, hk3⟩ | ⟨rfl, hJx3⟩)
            · have hcy3 := hcy.keepK hk3 (by omega)
              have z0 := hcy3.cell 0 _ rfl
              have z1 := hcy3.cell 1 _ rfl
              have z2 := hcy3.cell 2 _ rfl
              have z3 := hcy3.cell 3 _ rfl
              clear y0 y1 y2 y3
              have hlv := fun w' => callsIn_wide (n := n - 1).2 (length_any y n' false w' hl1 hl2 hn1 hlt')
              gi_wp2_with (refine ⟨trivial, ?_⟩; gi_at_call 42; refine (hlv _).mono ?_; rintro e W4 ⟨rfl, hb4⟩; have hcy4 := hcy3.below hcy3.lt hb4; have z3 := hcy4.cell 3 _ rfl)
              go_roundw
              case rel => exact ⟨n' + 1, j, d' + lenF y.long n' false, _, by omega, by omega, by go_num, rfl, by omega, by omega, by simp; omega, HX.out, HJ.out _ _ _ hJ3 (grown_of_below hb4 none), hnx.trans (hk3.below.trans (hb4.mono (by have := hk3.below.size; have := hnx.size; omega))), by have := hb4.size; have := hk3.below.size; omega, hcy4⟩
              case measure => simp [intOf]; omega
            · gi_wp2
              refine bodyPost_ret (results_none rfl _ _ _) rfl ?_
              exact ⟨⟨_, rfl⟩, .inr ⟨_, ⟨_, by rw [HX.out]; simp only [List.append_assoc]; rfl⟩, hJx3⟩⟩
        · obtain rfl : j = 0 := by omega
          obtain rfl : n' = 13 := by omega
          have HX := Lib.hid (show mos ys = pre' ++ mosL (ys.drop (k + 1)) (k + 1) d' by rw [HM.out]; simp [mosY, endY])
          gi_wp2
          go_roundw
          case rel => exact ⟨k + 1, d', pre', by omega, by go_num, rfl, hd1', by omega, by omega, HX.out, hJs, hnx, hsi⟩
          case measure => simp [intOf]; omega
    · have HX := Lib.hid (show mos ys = pre by rw [HM.out, List.drop_of_length_le (by omega)]; simp [mosL])
      clear hcell
      gi_wp2
      go_end0
      exact ⟨⟨_, rfl⟩, .inl ⟨_, HX.out.symm, hJs⟩⟩
end Go.Proofs.YthpjeclhignciaaDoor
