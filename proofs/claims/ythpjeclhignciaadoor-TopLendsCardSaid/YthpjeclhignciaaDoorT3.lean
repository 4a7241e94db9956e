/- Walks of the package date: at. Conditions: those stated. -/
import Derived.Test.YthpjeclhignciaaDoorT2
import Derived.OrdersHeld
namespace Go.Proofs.YthpjeclhignciaaDoor
open Go Go.RowKit Go.Shelf
attribute [local go_sem] Oper.semAt_some

theorem wpAnyH_takeD {P : Program} {md : Region.Mode} {ops : Array Oper} {Q : Exit → Act → World → Prop} {S : World → Prop} {i : Nat} {oi : Oper} {v : Value} {fuel : Nat} {listed : Array Bool} {a : Act} {w : World} (d : Nat) (hi : ops[i]? = some oi)
    (hs : Region.noSelect ops = true) (hf : Region.free md ops listed i = true) (hr : (Region.ready md ops listed).contains i = true)
    (hQ : ∀ c a w, Q (.panic c) (a.put oi.dst v) w → Q (.panic c) a w) (hy : YieldsIf P ops S oi v a) (hS : S w) (hd : oi.dst = some d)
    (h : wpAnyH P md ops Q S fuel (listed.setIfInBounds i true) { tmps := a.tmps.setIfInBounds d v, defers := a.defers } w) : wpAnyH P md ops Q S (fuel + 1) listed a w :=
  wpAnyH_take hi hs hf hr hQ hy hS (by rw [hd]; exact h)

theorem Cel.set4 {W : World} {B : Nat} {t : TypeId} {a b c d : Value} (h : Cel W B t #[a, b, c, d]) (a' b' c' d' : Value) :
    Cel ((((W.setCell ⟨B, 0, none⟩ a').setCell ⟨B, 1, none⟩ b').setCell ⟨B, 2, none⟩ c').setCell ⟨B, 3, none⟩ d') B t #[a', b', c', d'] := (((h.setAt 0 a').setAt 1 b').setAt 2 c').setAt 3 d'
theorem setCell_keeps (W : World) (p : Addr) (v : Value) : KeepsOthers W (W.setCell p v) := KeepsOthers.setCell _ _ _

abbrev MoOf (ys : List Yr) := { m : Mo // m ∈ mos ys }
def moVM {ys : List Yr} (m : MoOf ys) : Array Value := moV m.1
def vals {ys : List Yr} (l : List (MoOf ys)) : List Mo := l.map (·.1)
theorem vals_snoc {ys : List Yr} (l : List (MoOf ys)) (x : MoOf ys) : vals (l ++ [x]) = vals l ++ [x.1] := by simp [vals]
theorem months_stopsM (n Bl n₀ c : Nat) (hn : 1 ≤ n) (x sv : Value) (ys : List Yr) (hok : ∀ y ∈ ys, 0 ≤ y.long ∧ y.long ≤ 8191) (hlen : ys.length ≤ 400) (w : World) (hBl : Bl < w.heap.size) (hn₀ : n₀ ≤ w.heap.size) (hc : c ≤ w.heap.size)
    (hb : w.heap[Bl]? = some (.cells #[x, sv] 25 (0, 0))) (hsl : ∀ w', Below n₀ w w' → Sl w' 4 sv (yearsV ys)) :
    SeqStopsK Fence.wide n Tryd.prog 43 #[.pointer (some ⟨Bl, 0, none⟩)] (moVM (ys := ys)) (KeepK n₀ c) (fun zs => vals zs = mos ys) (fun pre => vals pre <+: mos ys) (24 * ys.length) w := fun l J Jx W hW hJ _ hY h0 => by
  have b1 : W.heap[Bl]? = some (.cells #[x, sv] 25 (0, 0)) := (hW.block _ hBl).trans hb
  refine (months1_in n hn l Bl n₀ c sv ys hok hlen (fun pre W => ∃ l : List (MoOf ys), vals l = pre ∧ J l W) (fun pre W => ∃ l : List (MoOf ys), vals l = pre ∧ Jx l W) ?_ W (by have := hW.size; omega) (by have := hW.size; omega)
    (fun pre X Y hj hg => by obtain ⟨q, e, hq⟩ := hj; exact ⟨q, e, hJ q X Y none hq hg (fun r e => by cases e)⟩) (cell_of_row W _ 1 _ _ _ b1) ?_ ⟨[], rfl, h0⟩).mono ?_
  · rintro pre m W1 ⟨q, rfl, hq⟩ hm hlen'
    obtain ⟨fn, tmps, assign, body, hy, hR⟩ := hY q ⟨m, hm⟩ W1 hq (by simpa [vals] using hlen')
    refine ⟨fn, tmps, assign, body, hy, hR.mono ?_⟩
    rintro e W' (⟨rfl, h1, h2⟩ | ⟨rfl, h1⟩)
    · exact .inl ⟨rfl, ⟨_, vals_snoc q ⟨m, hm⟩, h1⟩, h2⟩
    · exact .inr ⟨rfl, ⟨_, vals_snoc q ⟨m, hm⟩, h1⟩⟩
  · exact fun W' hW' => hsl _ ((hW.mono hn₀).trans hW')
  · rintro e W' ⟨h1, ⟨zs, rfl, q, e1, hq⟩ | ⟨pre, hp, q, e1, hq⟩⟩
    · exact ⟨h1, .inl ⟨q, e1, hq⟩⟩
    · exact ⟨h1, .inr ⟨q, by show vals q <+: mos ys; rw [e1]; exact hp, hq⟩⟩

set_option maxRecDepth 100000 in
/-- How many days a month of the calendar has. -/
theorem of_any (v : Value) (ks : List ByteArray) (ys : List Yr) (x : MoOf ys) (w : World) (hv : CalV w v ks ys) (hok : ∀ y ∈ ys, 0 ≤ y.long ∧ y.long ≤ 8191) :
    Calls Tryd.prog 27 #[.agg #[.int .i64 (x.1.yr : Int), .int .i64 (x.1.num : Int), .bool x.1.sec], v] w fun e w' => e = .returned (.int .i64 x.1.len) ∧ Below w.heap.size w w' := by
  obtain ⟨Ak, nk, ck, Ay, ny, cy, rfl, hk, hy⟩ := hv
  obtain ⟨j, y, j1, j2, j3, j4, j5, j6⟩ := mosL_mem x.2
  have HL := Lib.hid j6
  obtain ⟨m, hm⟩ := x
  simp only at *
  have hj : m.yr = j := by omega
  obtain ⟨hjl, rfl⟩ := List.getElem?_eq_some_iff.1 j1
  have hyk := hok _ (List.getElem_mem hjl)
  obtain ⟨A', n', c', e, hnl, _, _, hcl⟩ := hy.open2 (by decide)
  cases e
  rw [yearsV_length] at hnl
  obtain rfl : ny = ys.length := by omega
  obtain ⟨b, o, e, hb, hce⟩ := hcl (by omega)
  cases e
  obtain ⟨g0, g1, g2, g3⟩ := yearsV_get hjl
  have e0 := hce _ _ g0
  have e1 := hce _ _ g1
  have e2 := hce _ _ g2
  have e3 := hce _ _ g3
  rw [← Nat.add_assoc] at e1 e2 e3
  obtain ⟨yr, num, sec, day, len⟩ := m
  simp only at *
  subst hj
  have hl := length_any ys[yr] num sec
  clear hcl hce g0 g1 g2 g3 hy hok j1 j2 j5 j6 hnl hm
  generalize ys[yr] = y at *
  obtain ⟨l1, l2⟩ := hyk
  have hx1 : (yr : Int) < (ys.length : Int) := by omega
  have Y1 := (Cel.new w 75 #[.int .i64 (yr : Int), .int .i64 (num : Int), .bool sec]).alloc (.cells #[.slice Ak nk ck, .slice (some ⟨b, o, none⟩) ys.length cy] 25)
  have Y2 := Cel.new (w.alloc (.cells #[.int .i64 (yr : Int), .int .i64 (num : Int), .bool sec] 75)) 25 #[.slice Ak nk ck, .slice (some ⟨b, o, none⟩) ys.length cy]
  have hB0 : Below w.heap.size w ((w.alloc (.cells #[.int .i64 (yr : Int), .int .i64 (num : Int), .bool sec] 75)).alloc (.cells #[.slice Ak nk ck, .slice (some ⟨b, o, none⟩) ys.length cy] 25)) := (below_alloc' _ _).alloc (by simp) _
  simp only [World.size_alloc] at Y2
  replace e0 := below_cell hB0 e0
  replace e1 := below_cell hB0 e1
  replace e2 := below_cell hB0 e2
  replace e3 := below_cell hB0 e3
  go_enter Tryd.func27, Tryd.ntmps27
  go_wp2
  obtain ⟨W2, hW2⟩ : ∃ W2, (w.alloc (.cells #[.int .i64 (yr : Int), .int .i64 (num : Int), .bool sec] 75)).alloc (.cells #[.slice Ak nk ck, .slice (some ⟨b, o, none⟩) ys.length cy] 25) = W2 := ⟨_, rfl⟩
  rw [hW2] at Y1 Y2 hB0 e0 e1 e2 e3 ⊢
  clear hW2
  have f0 := Y1.cell 0 _ rfl
  have f1 := Y1.cell 1 _ rfl
  have f2 := Y1.cell 2 _ rfl
  have c1 := Y2.cell 1 _ rfl
  go_still_tail 10, (by kernel_rfl)
  change wpList _ _ _ _ _ W2.drew
  have hB3 := show Below w.heap.size w W2.drew from below_drew hB0
  generalize W2.drew = W3 at *
  go_wp2_with (go_at_call 42; refine (length_any y num sec _ l1 l2 j3 j4).mono ?_; rintro e w' ⟨rfl, hb4⟩)
  go_ret
  exact ⟨by rw [HL.out]; rfl, hB3.trans (hb4.mono hB3.size)⟩

def atD (n : Int) (pre : List Mo) : Mo := (atF pre n).getD ⟨0, 0, false, 0, 0⟩
theorem atF_snoc {pre : List Mo} {n : Int} (h : atF pre n = none) (x : Mo) : atF (pre ++ [x]) n = if hasDay x n then some x else none := by
  rw [atF_append, h]
  simp only [atF, List.find?_cons, List.find?_nil, Option.none_or]
  cases hasDay x n <;> rfl

/-- What at answers. -/
def atV (l : List Mo) (n : Int) : Value := match atF l n with
  | some m => .tuple #[.agg #[.int .i64 (m.yr : Int), .int .i64 (m.num : Int), .bool m.sec, .int .i64 (n - m.day + 1)], .int .i64 0]
  | none => .tuple #[.agg #[.int .i64 0, .int .i64 0, .bool false, .int .i64 0], .int .i64 8]
set_option maxRecDepth 100000 in
set_option maxHeartbeats 2000000 in
theorem at_any (v : Value) (ks : List ByteArray) (ys : List Yr) (n : Int) (w : World) (hv : CalV w v ks ys) (hok : ∀ y ∈ ys, 0 ≤ y.long ∧ y.long ≤ 8191) (hlen : ys.length ≤ 400) (hn : Bd n) :
    Calls Tryd.prog 12 #[v, .int .i64 n] w fun e w' => e = .returned (atV (mos ys) n) ∧ Below w.heap.size w w' := by
  have hv0 := hv
  obtain ⟨Ak, nk, ck, Ay, ny, cy, rfl, hk, hy⟩ := hv
  have HV := Lib.hid hv0
  clear hv0
  refine (callsIn_wide (n := 6)).1 ?_
  refine callsIn_of_wp_marks Tryd.func12 rfl trivial ?_ rfl
  simp only [Tryd.ntmps12, List.size_toArray, List.length_cons, List.length_nil, Nat.reduceAdd, Nat.reduceSub, Array.replicate_succ, Array.replicate_zero, List.push_toArray, List.append_toArray, List.nil_append, List.cons_append]
  gi_wp2_with (refine ⟨trivial, ?_⟩; gi_at_call 26; refine (callsIn_wide.2 (months_any _ _ _)).mono ?_; rintro e w' ⟨rfl, rfl⟩)
  have Y1 := ((((Cel.new w 25 #[.slice Ak nk ck, .slice Ay ny cy]).alloc (.cells #[.int .i64 n] 3)).alloc (.cells #[.int .i64 0, .int .i64 0, .bool false, .int .i64 0] 29)).alloc (.cells #[.int .i64 0] 34)).alloc (.cells #[.slice Ak nk ck, .slice Ay ny cy] 25)
  have Y2 := (((Cel.new (w.alloc (.cells #[.slice Ak nk ck, .slice Ay ny cy] 25)) 3 #[.int .i64 n]).alloc (.cells #[.int .i64 0, .int .i64 0, .bool false, .int .i64 0] 29)).alloc (.cells #[.int .i64 0] 34)).alloc (.cells #[.slice Ak nk ck, .slice Ay ny cy] 25)
  have Y3 := ((Cel.new ((w.alloc (.cells #[.slice Ak nk ck, .slice Ay ny cy] 25)).alloc (.cells #[.int .i64 n] 3)) 29 #[.int .i64 0, .int .i64 0, .bool false, .int .i64 0]).alloc (.cells #[.int .i64 0] 34)).alloc (.cells #[.slice Ak nk ck, .slice Ay ny cy] 25)
  have Y4 := (Cel.new (((w.alloc (.cells #[.slice Ak nk ck, .slice Ay ny cy] 25)).alloc (.cells #[.int .i64 n] 3)).alloc (.cells #[.int .i64 0, .int .i64 0, .bool false, .int .i64 0] 29)) 34 #[.int .i64 0]).alloc (.cells #[.slice Ak nk ck, .slice Ay ny cy] 25)
  have Y5 := Cel.new ((((w.alloc (.cells #[.slice Ak nk ck, .slice Ay ny cy] 25)).alloc (.cells #[.int .i64 n] 3)).alloc (.cells #[.int .i64 0, .int .i64 0, .bool false, .int .i64 0] 29)).alloc (.cells #[.int .i64 0] 34)) 25 #[.slice Ak nk ck, .slice Ay ny cy]
  have hB0 : Below w.heap.size w (((((w.alloc (.cells #[.slice Ak nk ck, .slice Ay ny cy] 25)).alloc (.cells #[.int .i64 n] 3)).alloc (.cells #[.int .i64 0, .int .i64 0, .bool false, .int .i64 0] 29)).alloc (.cells #[.int .i64 0] 34)).alloc (.cells #[.slice Ak nk ck, .slice Ay ny cy] 25)) := (((((Below.refl _ w).alloc (Nat.le_refl _) _).alloc (by simp) _).alloc (by simp; omega) _).alloc (by simp; omega) _).alloc (by simp; omega) _
  simp only [World.size_alloc] at Y2 Y3 Y4 Y5
  have hsz : (((((w.alloc (.cells #[.slice Ak nk ck, .slice Ay ny cy] 25)).alloc (.cells #[.int .i64 n] 3)).alloc (.cells #[.int .i64 0, .int .i64 0, .bool false, .int .i64 0] 29)).alloc (.cells #[.int .i64 0] 34)).alloc (.cells #[.slice Ak nk ck, .slice Ay ny cy] 25)).heap.size = w.heap.size + 5 := by simp
  obtain ⟨W0, hW0⟩ : ∃ W0, (((((w.alloc (.cells #[.slice Ak nk ck, .slice Ay ny cy] 25)).alloc (.cells #[.int .i64 n] 3)).alloc (.cells #[.int .i64 0, .int .i64 0, .bool false, .int .i64 0] 29)).alloc (.cells #[.int .i64 0] 34)).alloc (.cells #[.slice Ak nk ck, .slice Ay ny cy] 25)) = W0 := ⟨_, rfl⟩
  rw [hW0] at Y1 Y2 Y3 Y4 Y5 hB0 hsz ⊢
  clear hW0
  refine wpIn_rangeFunc_ownH (F := Fence.wide) (n := 6) (w := W0) rfl (by decide) (gf := 43) (lb := #[.pointer (some ⟨w.heap.size + 1 + 1 + 1 + 1, 0, none⟩)]) rfl trivial (enters_of Tryd.func43 (by kernel_rfl) rfl)
    (months_stopsM 5 (w.heap.size + 1 + 1 + 1 + 1) w.heap.size (w.heap.size + 1 + 1 + 1 + 1) (by decide) (.slice Ak nk ck) (.slice Ay ny cy) ys hok hlen W0 (by omega) (by omega) (by omega) Y5 (fun w' hw' => hy.below (hB0.trans hw'))) keepK_t (keepK_b (by omega)) (Below.refl _ _) (fun _ => rfl)
    (fun pre W => ((((Cel W w.heap.size 25 #[.slice Ak nk ck, .slice Ay ny cy] ∧ Cel W (w.heap.size + 1) 3 #[.int .i64 n]) ∧ Cel W (w.heap.size + 1 + 1) 29 #[.int .i64 0, .int .i64 0, .bool false, .int .i64 0]) ∧ Cel W (w.heap.size + 1 + 1 + 1) 34 #[.int .i64 0]) ∧ atF (vals pre) n = none) ∧ Below w.heap.size w W)
    (fun cd pre W => ((cd = .ret ∧ (atF (vals pre) n).isSome) ∧ (Cel W (w.heap.size + 1 + 1) 29 #[.int .i64 ((atD n (vals pre)).yr : Int), .int .i64 ((atD n (vals pre)).num : Int), .bool (atD n (vals pre)).sec, .int .i64 (n - (atD n (vals pre)).day + 1)] ∧ Cel W (w.heap.size + 1 + 1 + 1) 34 #[.int .i64 0])) ∧ Below w.heap.size w W)
    (OwnFrom.and (OwnFrom.and (OwnFrom.and (OwnFrom.and (OwnFrom.and (Own.from (Cel.own _ _ _) _) (Own.from (Cel.own _ _ _) _)) (Own.from (Cel.own _ _ _) _)) (Own.from (Cel.own _ _ _) _)) (ownFrom_pure _ _)) (ownFrom_below (Nat.le_refl _) (by omega)))
    (fun cd => OwnFrom.and (OwnFrom.and (ownFrom_pure _ _) (OwnFrom.and (Own.from (Cel.own _ _ (fun pre : List (MoOf ys) => #[.int .i64 ((atD n (vals pre)).yr : Int), .int .i64 ((atD n (vals pre)).num : Int), .bool (atD n (vals pre)).sec, .int .i64 (n - (atD n (vals pre)).day + 1)])) _) (Own.from (Cel.own _ _ _) _))) (ownFrom_below (Nat.le_refl _) (by omega)))
    ⟨⟨⟨⟨⟨Y1, Y2⟩, Y3⟩, Y4⟩, rfl⟩, hB0⟩
    (fun x a' W => ∃ Bx, w.heap.size + 1 + 1 + 1 < Bx ∧ Cel W Bx 75 #[.int .i64 (x.1.yr : Int), .int .i64 (x.1.num : Int), .bool x.1.sec] ∧ a' = Act.mk #[Value.agg #[Value.slice Ak nk ck, Value.slice Ay ny cy],
          Value.int IntKind.i64 n,
          Value.pointer (some { block := w.heap.size, off := 0 }),
          Value.pointer (some { block := w.heap.size + 1, off := 0 }),
          Value.pointer (some { block := w.heap.size + 1 + 1, off := 0 }),
          Value.pointer (some { block := w.heap.size + 1 + 1 + 1, off := 0 }), Value.pointer (some { block := Bx, off := 0 }), .int .i64 x.1.day,
          Value.agg #[Value.slice Ak nk ck, Value.slice Ay ny cy],
          Value.func (Fn.func 43) #[] #[Value.pointer (some { block := w.heap.size + 1 + 1 + 1 + 1, off := 0 })], .agg #[.int .i64 (x.1.yr : Int), .int .i64 (x.1.num : Int), .bool x.1.sec], .int .i64 x.1.day,
          undef, undef, undef, undef, undef, undef, undef, undef, undef, undef, undef, undef, undef, undef, undef, undef, undef, undef, undef, undef, undef, undef, undef, undef] [])
    (fun x a' _ X Y row hs hg hr => by obtain ⟨Bx, h1, h2, h3⟩ := hs; exact ⟨Bx, h1, Cel.own Bx _ (fun (_ : Unit) => #[.int .i64 (x.1.yr : Int), .int .i64 (x.1.num : Int), .bool x.1.sec]) () X Y row h2 hg (fun r e => (hr r e).2), h3⟩)
    ?assign ?body ?done ?stop
  case assign =>
    rintro l pre x W K ⟨⟨⟨⟨⟨y1, y2⟩, y3⟩, y4⟩, y5⟩, hB1⟩ hK
    dsimp only [moVM, moV]
    gi_wp2
    exact hK _ _ ((KeepsOthers.alloc _ _).from _) (KeepK.of_below (below_alloc' _ _) hB1.size) ⟨⟨⟨⟨⟨y1.alloc _, y2.alloc _⟩, y3.alloc _⟩, y4.alloc _⟩, y5⟩, hB1.alloc hB1.size _⟩ ⟨W.heap.size, y4.lt, Cel.new W _ _, rfl⟩
  case body =>
    rintro l pre x a' W hl ⟨r, hr⟩ ⟨⟨⟨⟨⟨y1, y2⟩, y3⟩, y4⟩, y5⟩, hB1⟩ ⟨Bx, hBx, yX, rfl⟩ hlt
    clear hr hl hlt
    have x0 := yX.cell 0 _ rfl
    have x1 := yX.cell 1 _ rfl
    have x2 := yX.cell 2 _ rfl
    have k0 := y1.cell 0 _ rfl
    have k1 := y1.cell 1 _ rfl
    have d0 := y2.cell 0 _ rfl
    have HX : Hid (∀ w', Below W.heap.size W w' → w'.cell? ⟨Bx, 0, none⟩ = some (.int .i64 (x.1.yr : Int)) ∧ w'.cell? ⟨Bx, 1, none⟩ = some (.int .i64 (x.1.num : Int)) ∧ w'.cell? ⟨Bx, 2, none⟩ = some (.bool x.1.sec) ∧ w'.cell? ⟨w.heap.size, 0, none⟩ = some (.slice Ak nk ck) ∧ w'.cell? ⟨w.heap.size, 1, none⟩ = some (.slice Ay ny cy) ∧ w'.cell? ⟨w.heap.size + 1, 0, none⟩ = some (.int .i64 n)) := fun w' hb =>
      ⟨below_cell hb x0, below_cell hb x1, below_cell hb x2, below_cell hb k0, below_cell hb k1, below_cell hb d0⟩
    have HS := Lib.hid (show ∀ b, hasDay x.1 n = b → atF (vals (pre ++ [x])) n = if b then some x.1 else none from fun b e => by rw [vals_snoc, atF_snoc y5, e])
    obtain ⟨v1, v2, v3, v4⟩ := mos_day hlen x.2
    have hn1 := hn.1
    have hn2 := hn.2
    by_cases h1 : x.1.day ≤ n
    · have q1 : decide (x.1.day ≤ n) = true := decide_eq_true h1
      have q3 : IntKind.i64.wrap (n - x.1.day) = n - x.1.day := IntWalk.i64_in _ (by omega)
      by_cases h2 : n - x.1.day < x.1.len
      · have q2 : decide (n - x.1.day < x.1.len) = true := decide_eq_true h2
        have HN := Lib.hid (HS.out true (by simp [hasDay, h1, h2]))
        clear h2
        gi_wp2
        refine region_round (S := fun w' => Below W.heap.size W w') (by rintro ⟨_, _, h⟩; exact h) (by kernel_rfl) (by kernel_rfl) (below_drew (Below.refl _ _)) (fun hHeld => ?_)
        refine wpAnyH_takeD (i := 0) (v := ?_) 12 rfl (by kernel_rfl) (by kernel_rfl) (by kernel_rfl) (fun _ _ _ h => h) (Or.inl ⟨by rfl, ?_⟩) (by assumption) rfl ?_
        rotate_left
        · intro w' hSw
          obtain ⟨x0, x1, x2, k0, k1, d0⟩ := HX.out w' hSw
          go_simp <;> with_reducible rfl
        simp only [List.setIfInBounds_toArray, List.set_cons_succ, List.set_cons_zero]
        refine wpAnyH_takeD (i := 1) (v := ?_) 13 rfl (by kernel_rfl) (by kernel_rfl) (by kernel_rfl) (fun _ _ _ h => h) (Or.inl ⟨by rfl, ?_⟩) (by assumption) rfl ?_
        rotate_left
        · intro w' hSw
          obtain ⟨x0, x1, x2, k0, k1, d0⟩ := HX.out w' hSw
          go_simp <;> with_reducible rfl
        simp only [List.setIfInBounds_toArray, List.set_cons_succ, List.set_cons_zero]
        refine wpAnyH_takeD (i := 2) (v := ?_) 14 rfl (by kernel_rfl) (by kernel_rfl) (by kernel_rfl) (fun _ _ _ h => h) (Or.inl ⟨by rfl, ?_⟩) (by assumption) rfl ?_
        rotate_left
        · intro w' hSw
          obtain ⟨x0, x1, x2, k0, k1, d0⟩ := HX.out w' hSw
          go_simp <;> with_reducible rfl
        simp only [List.setIfInBounds_toArray, List.set_cons_succ, List.set_cons_zero]
        refine wpAnyH_takeD (i := 3) (v := ?_) 15 rfl (by kernel_rfl) (by kernel_rfl) (by kernel_rfl) (fun _ _ _ h => h) (Or.inl ⟨by rfl, ?_⟩) (by assumption) rfl ?_
        rotate_left
        · intro w' hSw
          obtain ⟨x0, x1, x2, k0, k1, d0⟩ := HX.out w' hSw
          go_simp <;> with_reducible rfl
        simp only [List.setIfInBounds_toArray, List.set_cons_succ, List.set_cons_zero]
        refine wpAnyH_takeD (i := 4) (v := ?_) 16 rfl (by kernel_rfl) (by kernel_rfl) (by kernel_rfl) (fun _ _ _ h => h) (Or.inl ⟨by rfl, ?_⟩) (by assumption) rfl ?_
        rotate_left
        · intro w' hSw
          obtain ⟨x0, x1, x2, k0, k1, d0⟩ := HX.out w' hSw
          go_simp <;> with_reducible rfl
        simp only [List.setIfInBounds_toArray, List.set_cons_succ, List.set_cons_zero]
        refine wpAnyH_takeD (i := 5) (v := ?_) 17 rfl (by kernel_rfl) (by kernel_rfl) (by kernel_rfl) (fun _ _ _ h => h) (Or.inl ⟨by rfl, ?_⟩) (by assumption) rfl ?_
        rotate_left
        · intro w' hSw
          obtain ⟨x0, x1, x2, k0, k1, d0⟩ := HX.out w' hSw
          go_simp <;> with_reducible rfl
        simp only [List.setIfInBounds_toArray, List.set_cons_succ, List.set_cons_zero]
        refine wpAnyH_takeD (i := 6) (v := ?_) 18 rfl (by kernel_rfl) (by kernel_rfl) (by kernel_rfl) (fun _ _ _ h => h) (Or.inl ⟨by rfl, ?_⟩) (by assumption) rfl ?_
        rotate_left
        · intro w' hSw
          obtain ⟨x0, x1, x2, k0, k1, d0⟩ := HX.out w' hSw
          go_simp <;> with_reducible rfl
        simp only [List.setIfInBounds_toArray, List.set_cons_succ, List.set_cons_zero]
        refine wpAnyH_takeD (i := 7) (v := ?_) 19 rfl (by kernel_rfl) (by kernel_rfl) (by kernel_rfl) (fun _ _ _ h => h) (Or.inl ⟨by rfl, ?_⟩) (by assumption) rfl ?_
        rotate_left
        · intro w' hSw
          obtain ⟨x0, x1, x2, k0, k1, d0⟩ := HX.out w' hSw
          go_simp <;> with_reducible rfl
        simp only [List.setIfInBounds_toArray, List.set_cons_succ, List.set_cons_zero]
        refine wpAnyH_takeD (i := 8) (v := ?_) 20 rfl (by kernel_rfl) (by kernel_rfl) (by kernel_rfl) (fun _ _ _ h => h) (Or.inl ⟨by rfl, ?_⟩) (by assumption) rfl ?_
        rotate_left
        · intro w' hSw
          obtain ⟨x0, x1, x2, k0, k1, d0⟩ := HX.out w' hSw
          go_simp <;> with_reducible rfl
        simp only [List.setIfInBounds_toArray, List.set_cons_succ, List.set_cons_zero]
        refine wpAnyH_ready (rs := [9]) (by kernel_rfl) (by simp) ?_
        refine AllReadyH.cons (o := _) rfl (fun K hK => ?_) AllReadyH.nil
        go_simp
        go_at_call 27
        refine (of_any (.agg #[.slice Ak nk ck, .slice Ay ny cy]) ks ys x _ ((HV.out.below hB1).below (below_drew (Below.refl _ _))) hok).mono ?_
        rintro e w1 ⟨rfl, hb1⟩
        have HB1 := Lib.hid (show Below W.heap.size W w1 from below_undrew hb1)
        clear hb1
        refine hK.out _ _ HB1.out (fun hHeld1 => ?_)
        clear hK K
        refine wpAnyH_takeD (i := 10) (v := ?_) 22 rfl (by kernel_rfl) (by kernel_rfl) (by kernel_rfl) (fun _ _ _ h => h) (Or.inl ⟨by rfl, ?_⟩) (by assumption) rfl ?_
        rotate_left
        · intro w' hSw
          obtain ⟨x0, x1, x2, k0, k1, d0⟩ := HX.out w' hSw
          go_simp <;> with_reducible rfl
        simp only [List.setIfInBounds_toArray, List.set_cons_succ, List.set_cons_zero]
        refine wpAnyH_takeD (i := 11) (v := ?_) 23 rfl (by kernel_rfl) (by kernel_rfl) (by kernel_rfl) (fun _ _ _ h => h) (Or.inl ⟨by rfl, ?_⟩) (by assumption) rfl ?_
        rotate_left
        · intro w' hSw
          obtain ⟨x0, x1, x2, k0, k1, d0⟩ := HX.out w' hSw
          go_simp <;> with_reducible rfl
        simp only [List.setIfInBounds_toArray, List.set_cons_succ, List.set_cons_zero]
        refine wpAnyH_done (by kernel_rfl) ?_ _
        have T1 := y2.below y2.lt HB1.out
        have T2 := y3.below y3.lt HB1.out
        have T3 := y4.below y4.lt HB1.out
        have TX := yX.below yX.lt HB1.out
        have d0 := T1.cell 0 _ rfl
        have x0 := TX.cell 0 _ rfl
        have x1 := TX.cell 1 _ rfl
        have x2 := TX.cell 2 _ rfl
        have r0 := T2.cell 0 _ rfl
        have r1 := T2.cell 1 _ rfl
        have r2 := T2.cell 2 _ rfl
        have r3 := T2.cell 3 _ rfl
        have r4 := T3.cell 0 _ rfl
        have f0 := T2.frozen 0
        have f1 := T2.frozen 1
        have f2 := T2.frozen 2
        have f3 := T2.frozen 3
        have f4 := T3.frozen 0
        gi_wp2
        have hA : atD n (vals (pre ++ [x])) = x.1 := by unfold atD; rw [HN.out]; rfl
        have hw1 := hB1.trans (HB1.out.mono hB1.size)
        refine ⟨(KeepsFrom.of_below HB1.out).trans ((((((setCell_keeps _ _ _).trans (setCell_keeps _ _ _)).trans (setCell_keeps _ _ _)).trans (setCell_keeps _ _ _)).trans (setCell_keeps _ _ _)).from _), ⟨⟨rfl, by rw [HN.out]; rfl⟩, ?_, ?_⟩, ?_⟩
        · rw [hA]
          exact (T2.set4 _ _ _ _).other (by simp) _
        · exact ((((T3.other (by simp) _).other (by simp) _).other (by simp) _).other (by simp) _).set1 _
        · exact ((((hw1.setCell (by simp; omega) _).setCell (by simp; omega) _).setCell (by simp; omega) _).setCell (by simp; omega) _).setCell (by simp; omega) _
      · have q2 : decide (n - x.1.day < x.1.len) = false := decide_eq_false h2
        have HN := Lib.hid (HS.out false (by simp [hasDay, h2]))
        clear h2
        gi_wp2
        refine region_round (S := fun w' => Below W.heap.size W w') (by rintro ⟨_, _, h⟩; exact h) (by kernel_rfl) (by kernel_rfl) (below_drew (Below.refl _ _)) (fun hHeld => ?_)
        refine wpAnyH_takeD (i := 0) (v := ?_) 12 rfl (by kernel_rfl) (by kernel_rfl) (by kernel_rfl) (fun _ _ _ h => h) (Or.inl ⟨by rfl, ?_⟩) (by assumption) rfl ?_
        rotate_left
        · intro w' hSw
          obtain ⟨x0, x1, x2, k0, k1, d0⟩ := HX.out w' hSw
          go_simp <;> with_reducible rfl
        simp only [List.setIfInBounds_toArray, List.set_cons_succ, List.set_cons_zero]
        refine wpAnyH_takeD (i := 1) (v := ?_) 13 rfl (by kernel_rfl) (by kernel_rfl) (by kernel_rfl) (fun _ _ _ h => h) (Or.inl ⟨by rfl, ?_⟩) (by assumption) rfl ?_
        rotate_left
        · intro w' hSw
          obtain ⟨x0, x1, x2, k0, k1, d0⟩ := HX.out w' hSw
          go_simp <;> with_reducible rfl
        simp only [List.setIfInBounds_toArray, List.set_cons_succ, List.set_cons_zero]
        refine wpAnyH_takeD (i := 2) (v := ?_) 14 rfl (by kernel_rfl) (by kernel_rfl) (by kernel_rfl) (fun _ _ _ h => h) (Or.inl ⟨by rfl, ?_⟩) (by assumption) rfl ?_
        rotate_left
        · intro w' hSw
          obtain ⟨x0, x1, x2, k0, k1, d0⟩ := HX.out w' hSw
          go_simp <;> with_reducible rfl
        simp only [List.setIfInBounds_toArray, List.set_cons_succ, List.set_cons_zero]
        refine wpAnyH_takeD (i := 3) (v := ?_) 15 rfl (by kernel_rfl) (by kernel_rfl) (by kernel_rfl) (fun _ _ _ h => h) (Or.inl ⟨by rfl, ?_⟩) (by assumption) rfl ?_
        rotate_left
        · intro w' hSw
          obtain ⟨x0, x1, x2, k0, k1, d0⟩ := HX.out w' hSw
          go_simp <;> with_reducible rfl
        simp only [List.setIfInBounds_toArray, List.set_cons_succ, List.set_cons_zero]
        refine wpAnyH_takeD (i := 4) (v := ?_) 16 rfl (by kernel_rfl) (by kernel_rfl) (by kernel_rfl) (fun _ _ _ h => h) (Or.inl ⟨by rfl, ?_⟩) (by assumption) rfl ?_
        rotate_left
        · intro w' hSw
          obtain ⟨x0, x1, x2, k0, k1, d0⟩ := HX.out w' hSw
          go_simp <;> with_reducible rfl
        simp only [List.setIfInBounds_toArray, List.set_cons_succ, List.set_cons_zero]
        refine wpAnyH_takeD (i := 5) (v := ?_) 17 rfl (by kernel_rfl) (by kernel_rfl) (by kernel_rfl) (fun _ _ _ h => h) (Or.inl ⟨by rfl, ?_⟩) (by assumption) rfl ?_
        rotate_left
        · intro w' hSw
          obtain ⟨x0, x1, x2, k0, k1, d0⟩ := HX.out w' hSw
          go_simp <;> with_reducible rfl
        simp only [List.setIfInBounds_toArray, List.set_cons_succ, List.set_cons_zero]
        refine wpAnyH_takeD (i := 6) (v := ?_) 18 rfl (by kernel_rfl) (by kernel_rfl) (by kernel_rfl) (fun _ _ _ h => h) (Or.inl ⟨by rfl, ?_⟩) (by assumption) rfl ?_
        rotate_left
        · intro w' hSw
          obtain ⟨x0, x1, x2, k0, k1, d0⟩ := HX.out w' hSw
          go_simp <;> with_reducible rfl
        simp only [List.setIfInBounds_toArray, List.set_cons_succ, List.set_cons_zero]
        refine wpAnyH_takeD (i := 7) (v := ?_) 19 rfl (by kernel_rfl) (by kernel_rfl) (by kernel_rfl) (fun _ _ _ h => h) (Or.inl ⟨by rfl, ?_⟩) (by assumption) rfl ?_
        rotate_left
        · intro w' hSw
          obtain ⟨x0, x1, x2, k0, k1, d0⟩ := HX.out w' hSw
          go_simp <;> with_reducible rfl
        simp only [List.setIfInBounds_toArray, List.set_cons_succ, List.set_cons_zero]
        refine wpAnyH_takeD (i := 8) (v := ?_) 20 rfl (by kernel_rfl) (by kernel_rfl) (by kernel_rfl) (fun _ _ _ h => h) (Or.inl ⟨by rfl, ?_⟩) (by assumption) rfl ?_
        rotate_left
        · intro w' hSw
          obtain ⟨x0, x1, x2, k0, k1, d0⟩ := HX.out w' hSw
          go_simp <;> with_reducible rfl
        simp only [List.setIfInBounds_toArray, List.set_cons_succ, List.set_cons_zero]
        refine wpAnyH_ready (rs := [9]) (by kernel_rfl) (by simp) ?_
        refine AllReadyH.cons (o := _) rfl (fun K hK => ?_) AllReadyH.nil
        go_simp
        go_at_call 27
        refine (of_any (.agg #[.slice Ak nk ck, .slice Ay ny cy]) ks ys x _ ((HV.out.below hB1).below (below_drew (Below.refl _ _))) hok).mono ?_
        rintro e w1 ⟨rfl, hb1⟩
        have HB1 := Lib.hid (show Below W.heap.size W w1 from below_undrew hb1)
        clear hb1
        refine hK.out _ _ HB1.out (fun hHeld1 => ?_)
        clear hK K
        refine wpAnyH_takeD (i := 10) (v := ?_) 22 rfl (by kernel_rfl) (by kernel_rfl) (by kernel_rfl) (fun _ _ _ h => h) (Or.inl ⟨by rfl, ?_⟩) (by assumption) rfl ?_
        rotate_left
        · intro w' hSw
          obtain ⟨x0, x1, x2, k0, k1, d0⟩ := HX.out w' hSw
          go_simp <;> with_reducible rfl
        simp only [List.setIfInBounds_toArray, List.set_cons_succ, List.set_cons_zero]
        refine wpAnyH_takeD (i := 11) (v := ?_) 23 rfl (by kernel_rfl) (by kernel_rfl) (by kernel_rfl) (fun _ _ _ h => h) (Or.inl ⟨by rfl, ?_⟩) (by assumption) rfl ?_
        rotate_left
        · intro w' hSw
          obtain ⟨x0, x1, x2, k0, k1, d0⟩ := HX.out w' hSw
          go_simp <;> with_reducible rfl
        simp only [List.setIfInBounds_toArray, List.set_cons_succ, List.set_cons_zero]
        refine wpAnyH_done (by kernel_rfl) ?_ _
        gi_wp2
        exact ⟨KeepsFrom.of_below HB1.out, KeepK.of_below HB1.out hB1.size, ⟨⟨⟨⟨y1.below y1.lt HB1.out, y2.below y2.lt HB1.out⟩, y3.below y3.lt HB1.out⟩, y4.below y4.lt HB1.out⟩, HN.out⟩, hB1.trans (HB1.out.mono hB1.size)⟩
    · have q1 : decide (x.1.day ≤ n) = false := decide_eq_false h1
      have HN := Lib.hid (HS.out false (by simp [hasDay, h1]))
      gi_wp2
      refine region_round (S := fun w' => Below W.heap.size W w') (by rintro ⟨_, _, h⟩; exact h) (by kernel_rfl) (by kernel_rfl) (below_drew (Below.refl _ _)) (fun hHeld => ?_)
      refine wpAnyH_takeD (i := 0) (v := ?_) 12 rfl (by kernel_rfl) (by kernel_rfl) (by kernel_rfl) (fun _ _ _ h => h) (Or.inl ⟨by rfl, ?_⟩) (by assumption) rfl ?_
      rotate_left
      · intro w' hSw
        obtain ⟨x0, x1, x2, k0, k1, d0⟩ := HX.out w' hSw
        go_simp <;> with_reducible rfl
      simp only [List.setIfInBounds_toArray, List.set_cons_succ, List.set_cons_zero]
      refine wpAnyH_takeD (i := 1) (v := ?_) 13 rfl (by kernel_rfl) (by kernel_rfl) (by kernel_rfl) (fun _ _ _ h => h) (Or.inl ⟨by rfl, ?_⟩) (by assumption) rfl ?_
      rotate_left
      · intro w' hSw
        obtain ⟨x0, x1, x2, k0, k1, d0⟩ := HX.out w' hSw
        go_simp <;> with_reducible rfl
      simp only [List.setIfInBounds_toArray, List.set_cons_succ, List.set_cons_zero]
      refine wpAnyH_takeD (i := 2) (v := ?_) 14 rfl (by kernel_rfl) (by kernel_rfl) (by kernel_rfl) (fun _ _ _ h => h) (Or.inl ⟨by rfl, ?_⟩) (by assumption) rfl ?_
      rotate_left
      · intro w' hSw
        obtain ⟨x0, x1, x2, k0, k1, d0⟩ := HX.out w' hSw
        go_simp <;> with_reducible rfl
      simp only [List.setIfInBounds_toArray, List.set_cons_succ, List.set_cons_zero]
      refine wpAnyH_takeD (i := 3) (v := ?_) 15 rfl (by kernel_rfl) (by kernel_rfl) (by kernel_rfl) (fun _ _ _ h => h) (Or.inl ⟨by rfl, ?_⟩) (by assumption) rfl ?_
      rotate_left
      · intro w' hSw
        obtain ⟨x0, x1, x2, k0, k1, d0⟩ := HX.out w' hSw
        go_simp <;> with_reducible rfl
      simp only [List.setIfInBounds_toArray, List.set_cons_succ, List.set_cons_zero]
      refine wpAnyH_takeD (i := 4) 16 rfl (by kernel_rfl) (by kernel_rfl) (by kernel_rfl) (fun _ _ _ h => h) (Or.inr ⟨by kernel_rfl, rfl⟩) (by assumption) rfl ?_
      simp only [List.setIfInBounds_toArray, List.set_cons_succ, List.set_cons_zero]
      refine wpAnyH_takeD (i := 5) 17 rfl (by kernel_rfl) (by kernel_rfl) (by kernel_rfl) (fun _ _ _ h => h) (Or.inr ⟨by kernel_rfl, rfl⟩) (by assumption) rfl ?_
      simp only [List.setIfInBounds_toArray, List.set_cons_succ, List.set_cons_zero]
      refine wpAnyH_takeD (i := 6) 18 rfl (by kernel_rfl) (by kernel_rfl) (by kernel_rfl) (fun _ _ _ h => h) (Or.inr ⟨by kernel_rfl, rfl⟩) (by assumption) rfl ?_
      simp only [List.setIfInBounds_toArray, List.set_cons_succ, List.set_cons_zero]
      refine wpAnyH_takeD (i := 7) 19 rfl (by kernel_rfl) (by kernel_rfl) (by kernel_rfl) (fun _ _ _ h => h) (Or.inr ⟨by kernel_rfl, rfl⟩) (by assumption) rfl ?_
      simp only [List.setIfInBounds_toArray, List.set_cons_succ, List.set_cons_zero]
      refine wpAnyH_takeD (i := 8) 20 rfl (by kernel_rfl) (by kernel_rfl) (by kernel_rfl) (fun _ _ _ h => h) (Or.inr ⟨by kernel_rfl, rfl⟩) (by assumption) rfl ?_
      simp only [List.setIfInBounds_toArray, List.set_cons_succ, List.set_cons_zero]
      refine wpAnyH_takeD (i := 9) 21 rfl (by kernel_rfl) (by kernel_rfl) (by kernel_rfl) (fun _ _ _ h => h) (Or.inr ⟨by kernel_rfl, rfl⟩) (by assumption) rfl ?_
      simp only [List.setIfInBounds_toArray, List.set_cons_succ, List.set_cons_zero]
      refine wpAnyH_takeD (i := 10) 22 rfl (by kernel_rfl) (by kernel_rfl) (by kernel_rfl) (fun _ _ _ h => h) (Or.inr ⟨by kernel_rfl, rfl⟩) (by assumption) rfl ?_
      simp only [List.setIfInBounds_toArray, List.set_cons_succ, List.set_cons_zero]
      refine wpAnyH_takeD (i := 11) (v := ?_) 23 rfl (by kernel_rfl) (by kernel_rfl) (by kernel_rfl) (fun _ _ _ h => h) (Or.inl ⟨by rfl, ?_⟩) (by assumption) rfl ?_
      rotate_left
      · intro w' hSw
        obtain ⟨x0, x1, x2, k0, k1, d0⟩ := HX.out w' hSw
        go_simp <;> with_reducible rfl
      simp only [List.setIfInBounds_toArray, List.set_cons_succ, List.set_cons_zero]
      refine wpAnyH_done (by kernel_rfl) ?_ _
      have HB1 := Lib.hid (show Below W.heap.size W W.drew from hHeld)
      gi_wp2
      exact ⟨KeepsFrom.of_below HB1.out, KeepK.of_below HB1.out hB1.size, ⟨⟨⟨⟨y1.below y1.lt HB1.out, y2.below y2.lt HB1.out⟩, y3.below y3.lt HB1.out⟩, y4.below y4.lt HB1.out⟩, HN.out⟩, hB1.trans (HB1.out.mono hB1.size)⟩
  case done =>
    rintro D' zs W hD hzs ⟨⟨⟨⟨⟨y1, y2⟩, y3⟩, y4⟩, y5⟩, hB1⟩ hK
    have HN := Lib.hid (show atV (mos ys) n = .tuple #[.agg #[.int .i64 0, .int .i64 0, .bool false, .int .i64 0], .int .i64 8] by
      have e : vals zs = mos ys := hzs
      rw [e] at y5
      unfold atV; rw [y5])
    clear y5 hzs
    have r0 := y3.cell 0 _ rfl
    have r1 := y3.cell 1 _ rfl
    have r2 := y3.cell 2 _ rfl
    have r3 := y3.cell 3 _ rfl
    have r4 := y4.cell 0 _ rfl
    have f0 := y3.frozen 0
    have f1 := y3.frozen 1
    have f2 := y3.frozen 2
    have f3 := y3.frozen 3
    have f4 := y4.frozen 0
    gi_wp2
    have hK1 := ((((((setCell_keeps W ⟨w.heap.size + 1 + 1, 0, none⟩ (.int .i64 0)).trans (setCell_keeps _ ⟨w.heap.size + 1 + 1, 1, none⟩ (.int .i64 0))).trans (setCell_keeps _ ⟨w.heap.size + 1 + 1, 2, none⟩ (.bool false))).trans (setCell_keeps _ ⟨w.heap.size + 1 + 1, 3, none⟩ (.int .i64 0))).trans (setCell_keeps _ ⟨w.heap.size + 1 + 1 + 1, 0, none⟩ (.int .i64 8)))).same D' _ hK rfl
    refine ⟨by simp, .inl ⟨_, _, rfl, run_takeDeferred hK1, ?_⟩⟩
    have T2 := (y3.set4 (.int .i64 0) (.int .i64 0) (.bool false) (.int .i64 0)).other (p := ⟨w.heap.size + 1 + 1 + 1, 0, none⟩) (by simp) (.int .i64 8)
    have T3 := ((((y4.other (p := ⟨w.heap.size + 1 + 1, 0, none⟩) (by simp) (.int .i64 0)).other (p := ⟨w.heap.size + 1 + 1, 1, none⟩) (by simp) (.int .i64 0)).other (p := ⟨w.heap.size + 1 + 1, 2, none⟩) (by simp) (.bool false)).other (p := ⟨w.heap.size + 1 + 1, 3, none⟩) (by simp) (.int .i64 0)).set1 (.int .i64 8)
    have hB2 := ((((hB1.setCell (p := ⟨w.heap.size + 1 + 1, 0, none⟩) (by simp; omega) (.int .i64 0)).setCell (p := ⟨w.heap.size + 1 + 1, 1, none⟩) (by simp; omega) (.int .i64 0)).setCell (p := ⟨w.heap.size + 1 + 1, 2, none⟩) (by simp; omega) (.bool false)).setCell (p := ⟨w.heap.size + 1 + 1, 3, none⟩) (by simp; omega) (.int .i64 0)).setCell (p := ⟨w.heap.size + 1 + 1 + 1, 0, none⟩) (by simp; omega) (.int .i64 8)
    generalize ((((W.setCell ⟨w.heap.size + 1 + 1, 0, none⟩ (.int .i64 0)).setCell ⟨w.heap.size + 1 + 1, 1, none⟩ (.int .i64 0)).setCell ⟨w.heap.size + 1 + 1, 2, none⟩ (.bool false)).setCell ⟨w.heap.size + 1 + 1, 3, none⟩ (.int .i64 0)).setCell ⟨w.heap.size + 1 + 1 + 1, 0, none⟩ (.int .i64 8) = U at *
    have gk := fun (b k : Nat) v (h : U.cell? ⟨b, k, none⟩ = some v) => cell_kept h (grownBy_putObj' U D' (.deferred none)) (fun r e => by cases e; exact ⟨_, hK1, rfl⟩)
    have k0 := gk _ _ _ (T2.cell 0 _ rfl)
    have k1 := gk _ _ _ (T2.cell 1 _ rfl)
    have k2 := gk _ _ _ (T2.cell 2 _ rfl)
    have k3 := gk _ _ _ (T2.cell 3 _ rfl)
    have k4 := gk _ _ _ (T3.cell 0 _ rfl)
    refine ⟨_, ?_, by rw [HN.out], hB2.trans (belowK_b (w := w) (Nat.le_refl _) U D' _ _ (by omega) hK1 rfl rfl)⟩
    simp [results, Tryd.f12, go_sem, k0, k1, k2, k3, k4]
  case stop =>
    rintro D' cd pre W hD hpre ⟨⟨⟨rfl, hso⟩, y3, y4⟩, hB1⟩ hK
    obtain ⟨m, hm⟩ := Option.isSome_iff_exists.1 hso
    obtain ⟨t, ht⟩ := hpre
    have hA : atD n (vals pre) = m := by unfold atD; rw [hm]; rfl
    rw [hA] at y3
    have HN := Lib.hid (show atV (mos ys) n = .tuple #[.agg #[.int .i64 (m.yr : Int), .int .i64 (m.num : Int), .bool m.sec, .int .i64 (n - m.day + 1)], .int .i64 0] by
      unfold atV; rw [← ht, atF_append, hm]; rfl)
    clear hm hso ht hA
    gi_wp2
    refine ⟨by simp, .inl ⟨_, _, rfl, run_takeDeferred hK, ?_⟩⟩
    have gk := fun (b k : Nat) v (h : W.cell? ⟨b, k, none⟩ = some v) => cell_kept h (grownBy_putObj' W D' (.deferred none)) (fun r e => by cases e; exact ⟨_, hK, rfl⟩)
    have k0 := gk _ _ _ (y3.cell 0 _ rfl)
    have k1 := gk _ _ _ (y3.cell 1 _ rfl)
    have k2 := gk _ _ _ (y3.cell 2 _ rfl)
    have k3 := gk _ _ _ (y3.cell 3 _ rfl)
    have k4 := gk _ _ _ (y4.cell 0 _ rfl)
    refine ⟨_, ?_, by rw [HN.out], hB1.trans (belowK_b (w := w) (Nat.le_refl _) W D' _ _ (by omega) hK rfl rfl)⟩
    simp [results, Tryd.f12, go_sem, k0, k1, k2, k3, k4]
end Go.Proofs.YthpjeclhignciaaDoor
