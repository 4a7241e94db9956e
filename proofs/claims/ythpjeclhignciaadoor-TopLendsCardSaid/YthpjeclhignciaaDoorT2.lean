/- Walks of the package date: number and at. Conditions: those stated. -/
import Derived.Test.YthpjeclhignciaaDoorT1
import Derived.Test.YthpjeclhignciaaDoorTR
namespace Go.Proofs.YthpjeclhignciaaDoor
open Go Go.RowKit Go.Shelf
attribute [local go_sem] Oper.semAt_some

/-- A calendar's value: its kings, its years. -/
def CalV (w : World) (v : Value) (ks : List ByteArray) (ys : List Yr) : Prop :=
  ∃ Ak nk ck Ay ny cy, v = .agg #[.slice Ak nk ck, .slice Ay ny cy] ∧ Sl w 1 (.slice Ak nk ck) (ks.map Value.string) ∧ Sl w 4 (.slice Ay ny cy) (yearsV ys)
theorem CalV.below {w w' : World} {v : Value} {ks : List ByteArray} {ys : List Yr} (h : CalV w v ks ys) (hb : Below w.heap.size w w') : CalV w' v ks ys := by
  obtain ⟨Ak, nk, ck, Ay, ny, cy, rfl, h1, h2⟩ := h
  exact ⟨Ak, nk, ck, Ay, ny, cy, rfl, h1.below hb, h2.below hb⟩

set_option maxHeartbeats 400000 in
theorem months_any (x y : Value) (w : World) :
    Calls Tryd.prog 26 #[.agg #[x, y]] w fun e w' => e = .returned (.func (.func 43) #[] #[.pointer (some ⟨w.heap.size, 0, none⟩)]) ∧ w' = w.alloc (.cells #[x, y] 25) := by
  have hmf : ∀ (fn : Fn) (first cap : Array Value) (w : World), (Instr.makeFunc fn first cap).run Tryd.prog w = .ok (.func fn first cap) w := fun _ _ _ _ => rfl
  go_enter Tryd.func26, Tryd.ntmps26
  go_wp2
  go_ret
  exact ⟨rfl, rfl⟩

/-- What months hands back stops, at whatever keeps what lay below n₀ and the cells from c on. -/
theorem months_stops (n Bl n₀ c : Nat) (hn : 1 ≤ n) (x sv : Value) (ys : List Yr) (hok : ∀ y ∈ ys, 0 ≤ y.long ∧ y.long ≤ 8191) (hlen : ys.length ≤ 400) (w : World) (hBl : Bl < w.heap.size) (hn₀ : n₀ ≤ w.heap.size) (hc : c ≤ w.heap.size)
    (hb : w.heap[Bl]? = some (.cells #[x, sv] 25 (0, 0))) (hsl : ∀ w', Below n₀ w w' → Sl w' 4 sv (yearsV ys)) :
    SeqStopsK Fence.wide n Tryd.prog 43 #[.pointer (some ⟨Bl, 0, none⟩)] moV (KeepK n₀ c) (fun zs => zs = mos ys) (fun pre => pre <+: mos ys) (24 * ys.length) w := fun l J Jx W hW hJ _ hY h0 => by
  have b1 : W.heap[Bl]? = some (.cells #[x, sv] 25 (0, 0)) := (hW.block _ hBl).trans hb
  refine months1_in n hn l Bl n₀ c sv ys hok hlen J Jx (fun pre x W h1 _ h2 => hY pre x W h1 h2) W (by have := hW.size; omega) (by have := hW.size; omega) (fun pre X Y hj hg => hJ pre X Y none hj hg (fun r e => by cases e)) (cell_of_row W _ 1 _ _ _ b1) ?_ h0
  exact fun W' hW' => hsl _ ((hW.mono hn₀).trans hW')

theorem monthOf_any (Y M D : Int) (S : Bool) (w : World) :
    Calls Tryd.prog 35 #[.agg #[.int .i64 Y, .int .i64 M, .bool S, .int .i64 D]] w fun e w' => e = .returned (.agg #[.int .i64 Y, .int .i64 M, .bool S]) ∧ Below w.heap.size w w' := by
  go_enter Tryd.func35, Tryd.ntmps35
  go_wp2
  exact bodyPost_ret (v := .agg #[.int .i64 Y, .int .i64 M, .bool S]) (by simp [results, Tryd.results35, go_sem]) rfl ⟨rfl, (below_alloc' _ _).alloc (by simp) _⟩

theorem below_undrew {V w : World} (h : Below V.drew.heap.size V.drew w) : Below V.heap.size V w := ⟨h.os, h.tape, h.output, h.size, h.block⟩
theorem KeepK.of_below {n c : Nat} {W W' : World} (hb : Below W.heap.size W W') (hn : n ≤ W.heap.size) : KeepK n c W W' :=
  ⟨hb.mono hn, fun k _ _ h _ => (hb.block k (Array.getElem?_eq_some_iff.1 h).1).trans h⟩
theorem KeepK.refl (n c : Nat) (W : World) : KeepK n c W W := ⟨Below.refl _ _, fun _ _ _ h _ => h⟩
theorem KeepK.set {n c : Nat} {W : World} {p : Addr} (hn : n ≤ p.block) (hc : p.block < c) (v : Value) : KeepK n c W (W.setCell p v) :=
  ⟨(Below.refl _ _).setCell hn _, fun k _ hk h _ => by
    have e : p.block ≠ k := by omega
    simp only [World.setCell, Array.getElem?_modify]; rw [if_neg e]; exact h⟩
theorem KeepsFrom.of_below {B : Nat} {W W' : World} (hb : Below W.heap.size W W') : KeepsFrom B W W' := KeepsFrom.of_grownBy (grown_of_below hb none) (fun j e => by cases e)

def numD (Y M : Int) (S : Bool) (D : Int) (pre : List Mo) : Int := ((numF Y M S pre 0).map (fun p => IntKind.i64.wrap (IntKind.i64.wrap (p.2.day + D) - 1))).getD 0
def numN (Y M : Int) (S : Bool) (pre : List Mo) : Nat := ((numF Y M S pre 0).map (fun p => p.1)).getD 0
theorem numF_snoc {Y M : Int} {S : Bool} {pre : List Mo} (h : numF Y M S pre 0 = none) (x : Mo) : numF Y M S (pre ++ [x]) 0 = if isMo x Y M S then some (pre.length + 1, x) else none := by
  rw [numF_append, h]
  simp [numF]
theorem isMo_cases (x : Mo) (Y M : Int) (S : Bool) : (isMo x Y M S = true ∧ ((x.yr : Int) == Y) = true ∧ ((x.num : Int) == M) = true ∧ (x.sec == S) = true) ∨
    (isMo x Y M S = false ∧ (((x.yr : Int) == Y) = false ∨ (((x.yr : Int) == Y) = true ∧ ((x.num : Int) == M) = false) ∨ (((x.yr : Int) == Y) = true ∧ ((x.num : Int) == M) = true ∧ (x.sec == S) = false))) := by
  unfold isMo
  by_cases h1 : (x.yr : Int) = Y <;> by_cases h2 : (x.num : Int) = M <;> by_cases h3 : x.sec = S <;> simp [h1, h2, h3]

set_option maxRecDepth 100000 in
set_option maxHeartbeats 2000000 in
theorem number_any (v : Value) (ks : List ByteArray) (ys : List Yr) (Y M D : Int) (S : Bool) (j : Nat) (m : Mo) (w : World) (hv : CalV w v ks ys) (hok : ∀ y ∈ ys, 0 ≤ y.long ∧ y.long ≤ 8191) (hlen : ys.length ≤ 400)
    (hD1 : 1 ≤ D) (hD2 : D ≤ 30) (hf : numF Y M S (mos ys) 0 = some (j, m)) (hm1 : 1 ≤ m.day) (hm2 : m.day ≤ 1000000) :
    Calls Tryd.prog 17 #[v, .agg #[.int .i64 Y, .int .i64 M, .bool S, .int .i64 D]] w fun e w' => e = .returned (.tuple #[.int .i64 (m.day + D - 1), .int .i64 (j : Int)]) ∧ Below w.heap.size w w' := by
  obtain ⟨Ak, nk, ck, Ay, ny, cy, rfl, hk, hy⟩ := hv
  have HF := Lib.hid hf
  clear hf
  refine (callsIn_wide (n := 6)).1 ?_
  refine callsIn_of_wp_marks Tryd.func17 rfl trivial ?_ rfl
  simp only [Tryd.ntmps17, List.size_toArray, List.length_cons, List.length_nil, Nat.reduceAdd, Nat.reduceSub, Array.replicate_succ, Array.replicate_zero, List.push_toArray, List.append_toArray, List.nil_append, List.cons_append]
  gi_wp2_with (refine ⟨trivial, ?_⟩; gi_at_call 26; refine (callsIn_wide.2 (months_any _ _ _)).mono ?_; rintro e w' ⟨rfl, rfl⟩)
  have Y1 := ((((Cel.new w 25 #[.slice Ak nk ck, .slice Ay ny cy]).alloc (.cells #[.int .i64 Y, .int .i64 M, .bool S, .int .i64 D] 29)).alloc (.cells #[.int .i64 0] 3)).alloc (.cells #[.int .i64 0] 3)).alloc (.cells #[.slice Ak nk ck, .slice Ay ny cy] 25)
  have Y2 := (((Cel.new (w.alloc (.cells #[.slice Ak nk ck, .slice Ay ny cy] 25)) 29 #[.int .i64 Y, .int .i64 M, .bool S, .int .i64 D]).alloc (.cells #[.int .i64 0] 3)).alloc (.cells #[.int .i64 0] 3)).alloc (.cells #[.slice Ak nk ck, .slice Ay ny cy] 25)
  have Y3 := ((Cel.new ((w.alloc (.cells #[.slice Ak nk ck, .slice Ay ny cy] 25)).alloc (.cells #[.int .i64 Y, .int .i64 M, .bool S, .int .i64 D] 29)) 3 #[.int .i64 0]).alloc (.cells #[.int .i64 0] 3)).alloc (.cells #[.slice Ak nk ck, .slice Ay ny cy] 25)
  have Y4 := (Cel.new (((w.alloc (.cells #[.slice Ak nk ck, .slice Ay ny cy] 25)).alloc (.cells #[.int .i64 Y, .int .i64 M, .bool S, .int .i64 D] 29)).alloc (.cells #[.int .i64 0] 3)) 3 #[.int .i64 0]).alloc (.cells #[.slice Ak nk ck, .slice Ay ny cy] 25)
  have Y5 := Cel.new ((((w.alloc (.cells #[.slice Ak nk ck, .slice Ay ny cy] 25)).alloc (.cells #[.int .i64 Y, .int .i64 M, .bool S, .int .i64 D] 29)).alloc (.cells #[.int .i64 0] 3)).alloc (.cells #[.int .i64 0] 3)) 25 #[.slice Ak nk ck, .slice Ay ny cy]
  have hB0 : Below w.heap.size w (((((w.alloc (.cells #[.slice Ak nk ck, .slice Ay ny cy] 25)).alloc (.cells #[.int .i64 Y, .int .i64 M, .bool S, .int .i64 D] 29)).alloc (.cells #[.int .i64 0] 3)).alloc (.cells #[.int .i64 0] 3)).alloc (.cells #[.slice Ak nk ck, .slice Ay ny cy] 25)) := (((((Below.refl _ w).alloc (Nat.le_refl _) _).alloc (by simp) _).alloc (by simp; omega) _).alloc (by simp; omega) _).alloc (by simp; omega) _
  simp only [World.size_alloc] at Y2 Y3 Y4 Y5
  have hsz : (((((w.alloc (.cells #[.slice Ak nk ck, .slice Ay ny cy] 25)).alloc (.cells #[.int .i64 Y, .int .i64 M, .bool S, .int .i64 D] 29)).alloc (.cells #[.int .i64 0] 3)).alloc (.cells #[.int .i64 0] 3)).alloc (.cells #[.slice Ak nk ck, .slice Ay ny cy] 25)).heap.size = w.heap.size + 5 := by simp
  obtain ⟨W0, hW0⟩ : ∃ W0, (((((w.alloc (.cells #[.slice Ak nk ck, .slice Ay ny cy] 25)).alloc (.cells #[.int .i64 Y, .int .i64 M, .bool S, .int .i64 D] 29)).alloc (.cells #[.int .i64 0] 3)).alloc (.cells #[.int .i64 0] 3)).alloc (.cells #[.slice Ak nk ck, .slice Ay ny cy] 25)) = W0 := ⟨_, rfl⟩
  rw [hW0] at Y1 Y2 Y3 Y4 Y5 hB0 hsz ⊢
  clear hW0
  refine wpIn_rangeFunc_ownH (F := Fence.wide) (n := 6) (w := W0) rfl (by decide) (gf := 43) (lb := #[.pointer (some ⟨w.heap.size + 1 + 1 + 1 + 1, 0, none⟩)]) rfl trivial (enters_of Tryd.func43 (by kernel_rfl) rfl)
    (months_stops 5 (w.heap.size + 1 + 1 + 1 + 1) w.heap.size (w.heap.size + 1 + 1 + 1 + 1) (by decide) (.slice Ak nk ck) (.slice Ay ny cy) ys hok hlen W0 (by omega) (by omega) (by omega) Y5 (fun w' hw' => hy.below (hB0.trans hw'))) keepK_t (keepK_b (by omega)) (Below.refl _ _) (fun _ => rfl)
    (fun pre W => (((Cel W (w.heap.size + 1) 29 #[.int .i64 Y, .int .i64 M, .bool S, .int .i64 D] ∧ Cel W (w.heap.size + 1 + 1) 3 #[.int .i64 0]) ∧ Cel W (w.heap.size + 1 + 1 + 1) 3 #[.int .i64 (pre.length : Int)]) ∧ numF Y M S pre 0 = none) ∧ Below w.heap.size w W)
    (fun cd pre W => ((cd = .ret ∧ (numF Y M S pre 0).isSome) ∧ (Cel W (w.heap.size + 1 + 1) 3 #[.int .i64 (numD Y M S D pre)] ∧ Cel W (w.heap.size + 1 + 1 + 1) 3 #[.int .i64 (numN Y M S pre : Int)])) ∧ Below w.heap.size w W)
    (OwnFrom.and (OwnFrom.and (OwnFrom.and (OwnFrom.and (Own.from (Cel.own _ _ _) _) (Own.from (Cel.own _ _ _) _)) (Own.from (Cel.own _ _ (fun pre : List Mo => #[.int .i64 (pre.length : Int)])) _)) (ownFrom_pure _ _)) (ownFrom_below (Nat.le_refl _) (by omega)))
    (fun cd => OwnFrom.and (OwnFrom.and (ownFrom_pure _ _) (OwnFrom.and (Own.from (Cel.own _ _ (fun pre : List Mo => #[.int .i64 (numD Y M S D pre)])) _) (Own.from (Cel.own _ _ (fun pre : List Mo => #[.int .i64 (numN Y M S pre : Int)])) _))) (ownFrom_below (Nat.le_refl _) (by omega)))
    ⟨⟨⟨⟨Y2, Y3⟩, Y4⟩, rfl⟩, hB0⟩
    (fun x a' W => ∃ Bx, w.heap.size + 1 + 1 + 1 < Bx ∧ Cel W Bx 75 #[.int .i64 (x.yr : Int), .int .i64 (x.num : Int), .bool x.sec] ∧ a' = Act.mk #[Value.agg #[Value.slice Ak nk ck, Value.slice Ay ny cy],
          Value.agg #[Value.int IntKind.i64 Y, Value.int IntKind.i64 M, Value.bool S, Value.int IntKind.i64 D],
          Value.pointer (some { block := w.heap.size, off := 0 }),
          Value.pointer (some { block := w.heap.size + 1, off := 0 }),
          Value.pointer (some { block := w.heap.size + 1 + 1, off := 0 }),
          Value.pointer (some { block := w.heap.size + 1 + 1 + 1, off := 0 }), Value.pointer (some { block := Bx, off := 0 }), .int .i64 x.day,
          Value.agg #[Value.slice Ak nk ck, Value.slice Ay ny cy],
          Value.func (Fn.func 43) #[] #[Value.pointer (some { block := w.heap.size + 1 + 1 + 1 + 1, off := 0 })], .agg #[.int .i64 (x.yr : Int), .int .i64 (x.num : Int), .bool x.sec], .int .i64 x.day,
          undef, undef, undef, undef, undef, undef, undef, undef, undef, undef, undef, undef] [])
    (fun x a' _ X Y row hs hg hr => by obtain ⟨Bx, h1, h2, h3⟩ := hs; exact ⟨Bx, h1, Cel.own Bx _ (fun (_ : Unit) => #[.int .i64 (x.yr : Int), .int .i64 (x.num : Int), .bool x.sec]) () X Y row h2 hg (fun r e => (hr r e).2), h3⟩)
    ?assign ?body ?done ?stop
  case assign =>
    rintro l pre x W K ⟨⟨⟨⟨y2, y3⟩, y4⟩, y5⟩, hB1⟩ hK
    dsimp only [moV]
    gi_wp2
    exact hK _ _ ((KeepsOthers.alloc _ _).from _) (KeepK.of_below (below_alloc' _ _) hB1.size) ⟨⟨⟨⟨y2.alloc _, y3.alloc _⟩, y4.alloc _⟩, y5⟩, hB1.alloc hB1.size _⟩ ⟨W.heap.size, y4.lt, Cel.new W _ _, rfl⟩
  case body =>
    rintro l pre x a' W hl ⟨r, hr⟩ ⟨⟨⟨⟨y2, y3⟩, y4⟩, y5⟩, hB1⟩ ⟨Bx, hBx, yX, rfl⟩ hlt
    clear hr hl
    have x0 := yX.cell 0 _ rfl
    have x1 := yX.cell 1 _ rfl
    have x2 := yX.cell 2 _ rfl
    have d0 := y2.cell 0 _ rfl
    have d1 := y2.cell 1 _ rfl
    have d2 := y2.cell 2 _ rfl
    have d3 := y2.cell 3 _ rfl
    have g3 := y3.cell 0 _ rfl
    have g4 := y4.cell 0 _ rfl
    have g5 := y3.frozen 0
    have g6 := y4.frozen 0
    have HM := Lib.hid (show KeepK w.heap.size (w.heap.size + 1 + 1 + 1 + 1) W (W.setCell ⟨w.heap.size + 1 + 1 + 1, 0, none⟩ (.int .i64 ((pre.length : Int) + 1))) from KeepK.set (by simp <;> omega) (by simp <;> omega) _)
    have HO := Lib.hid (show KeepsFrom W0.heap.size W (W.setCell ⟨w.heap.size + 1 + 1 + 1, 0, none⟩ (.int .i64 ((pre.length : Int) + 1))) from (KeepsOthers.setCell _ _ _).from _)
    have HL := Lib.hid hlt
    have hlx : (pre.length : Int) ≤ 9600 := by omega
    have Z2 := y2.other (p := ⟨w.heap.size + 1 + 1 + 1, 0, none⟩) (by simp <;> omega) (.int .i64 ((pre.length : Int) + 1))
    have Z3 := y3.other (p := ⟨w.heap.size + 1 + 1 + 1, 0, none⟩) (by simp <;> omega) (.int .i64 ((pre.length : Int) + 1))
    have Z4 := y4.set1 (.int .i64 ((pre.length : Int) + 1))
    have ZX := yX.other (p := ⟨w.heap.size + 1 + 1 + 1, 0, none⟩) (by simp; omega) (.int .i64 ((pre.length : Int) + 1))
    have ZB := hB1.setCell (p := ⟨w.heap.size + 1 + 1 + 1, 0, none⟩) (by simp; omega) (.int .i64 ((pre.length : Int) + 1))
    clear hlt
    gi_wp2
    obtain ⟨V, hV⟩ : ∃ V, W.setCell ⟨w.heap.size + 1 + 1 + 1, 0, none⟩ (.int .i64 ((pre.length : Int) + 1)) = V := ⟨_, rfl⟩
    rw [hV] at HM HO Z2 Z3 Z4 ZX ZB ⊢
    clear hV x0 x1 x2 d0 d1 d2 d3 g3 g4 g5 g6 y2 y3 y4 yX hB1
    have HS := Lib.hid (numF_snoc y5 x)
    have x0 := ZX.cell 0 _ rfl
    have x1 := ZX.cell 1 _ rfl
    have x2 := ZX.cell 2 _ rfl
    have d0 := Z2.cell 0 _ rfl
    have d1 := Z2.cell 1 _ rfl
    have d2 := Z2.cell 2 _ rfl
    have d3 := Z2.cell 3 _ rfl
    rcases isMo_cases x Y M S with ⟨hm, q1, q2, q3⟩ | ⟨hm, hq⟩
    · gi_region_with (refine ⟨trivial, ?_⟩; gi_at_call 35; refine (CallsIn.inRound l (callsIn_wide.2 (monthOf_any Y M D S _))).mono ?_; rintro e w' ⟨rfl, hb⟩; have ZX' := (show Cel V.drew _ _ _ from ZX).below ZX.lt hb; have x0 := ZX'.cell 0 _ rfl; have x1 := ZX'.cell 1 _ rfl; have x2 := ZX'.cell 2 _ rfl)
      all_goals
        have hbV := below_undrew hb
        have T2 := Z2.below Z2.lt hbV
        have T3 := Z3.below Z3.lt hbV
        have T4 := Z4.below Z4.lt hbV
        have d3 := T2.cell 3 _ rfl
        have g3 := T3.cell 0 _ rfl
        have g4 := T4.cell 0 _ rfl
        have g5 := T3.frozen 0
        have g6 := T4.frozen 0
        gi_wp2
        have HK := Lib.hid (keepK_t HM.out (KeepK.of_below (show Below V.heap.size V w'.drew from below_drew hbV) ZB.size))
        have HF2 := Lib.hid (HO.out.trans (KeepsFrom.of_below (B := W0.heap.size) (show Below V.heap.size V w'.drew from below_drew hbV)))
        have HB2 := Lib.hid (show Below w.heap.size w w'.drew from below_drew (ZB.trans (hbV.mono ZB.size)))
        have HT3 := Lib.hid (show Cel w'.drew _ _ _ from T3)
        have HT4 := Lib.hid (show Cel w'.drew _ _ _ from T4)
        have HE1 := Lib.hid (show numD Y M S D (pre ++ [x]) = IntKind.i64.wrap (IntKind.i64.wrap (x.day + D) - 1) by unfold numD; rw [HS.out, hm]; rfl)
        have HE2 := Lib.hid (show (numN Y M S (pre ++ [x]) : Int) = (pre.length : Int) + 1 by unfold numN; rw [HS.out, hm]; simp)
        have HE3 := Lib.hid (show (numF Y M S (pre ++ [x]) 0).isSome = true by rw [HS.out, hm]; rfl)
        clear T2 T3 T4 hbV hb ZX' x0 x1 x2
        gi_region
        all_goals gi_wp2
        all_goals exact ⟨HF2.out.trans (((KeepsOthers.setCell _ _ _).trans (KeepsOthers.setCell _ _ _)).from _), ⟨⟨rfl, HE3.out⟩, by rw [HE1.out]; exact (HT3.out.set1 _).other (by simp) _, by rw [HE2.out]; exact (HT4.out.other (by simp <;> omega) _).set1 _⟩, (HB2.out.setCell (by simp <;> omega) _).setCell (by simp <;> omega) _⟩
    · rcases hq with q1 | ⟨q1, q2⟩ | ⟨q1, q2, q3⟩
      all_goals
        gi_region_with (refine ⟨trivial, ?_⟩; gi_at_call 35; refine (CallsIn.inRound l (callsIn_wide.2 (monthOf_any Y M D S _))).mono ?_; rintro e w' ⟨rfl, hb⟩; have ZX' := (show Cel V.drew _ _ _ from ZX).below ZX.lt hb; have x0 := ZX'.cell 0 _ rfl; have x1 := ZX'.cell 1 _ rfl; have x2 := ZX'.cell 2 _ rfl)
        all_goals
          have hbV := below_undrew hb
          gi_wp2
          exact ⟨HO.out.trans (KeepsFrom.of_below hbV), keepK_t HM.out (KeepK.of_below hbV ZB.size), ⟨⟨⟨Z2.below Z2.lt hbV, Z3.below Z3.lt hbV⟩, by have := Z4.below Z4.lt hbV; simpa using this⟩, by rw [HS.out, hm]; rfl⟩, ZB.trans (hbV.mono ZB.size)⟩
  case done =>
    rintro D' zs W hD rfl ⟨⟨⟨⟨y2, y3⟩, y4⟩, y5⟩, hB1⟩ hK
    have := HF.out
    rw [mos] at y5 this
    rw [y5] at this
    cases this
  case stop =>
    rintro D' cd pre W hD hpre ⟨⟨⟨rfl, hso⟩, y3, y4⟩, hB1⟩ hK
    gi_wp2
    refine ⟨by simp, .inl ⟨_, _, rfl, run_takeDeferred hK, ?_⟩⟩
    obtain ⟨p, hp⟩ := Option.isSome_iff_exists.1 hso
    obtain ⟨t, ht⟩ := hpre
    have hp' : p = (j, m) := by
      have h := HF.out
      rw [← ht, numF_append, hp] at h
      simpa using h
    subst hp'
    have k3 := cell_kept (y3.cell 0 _ rfl) (grownBy_putObj' _ D' (.deferred none)) (fun r e => by cases e; exact ⟨_, hK, rfl⟩)
    have k4 := cell_kept (y4.cell 0 _ rfl) (grownBy_putObj' _ D' (.deferred none)) (fun r e => by cases e; exact ⟨_, hK, rfl⟩)
    have e1 : numD Y M S D pre = m.day + D - 1 := by
      have h1 : IntKind.i64.wrap (m.day + D) = m.day + D := IntWalk.i64_in _ (by omega)
      have h2 : IntKind.i64.wrap (m.day + D - 1) = m.day + D - 1 := IntWalk.i64_in _ (by omega)
      simp [numD, hp, h1, h2]
    have e2 : numN Y M S pre = j := by simp [numN, hp]
    rw [e1] at k3
    rw [e2] at k4
    refine ⟨_, ?_, rfl, hB1.trans (belowK_b (w := w) (Nat.le_refl _) W D' _ _ (by omega) hK rfl rfl)⟩
    simp [results, Tryd.f17, go_sem, k3, k4]
end Go.Proofs.YthpjeclhignciaaDoor
