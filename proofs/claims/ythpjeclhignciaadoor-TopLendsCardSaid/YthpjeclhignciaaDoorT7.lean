/- Walks of the package date: in, checks, At, Number, Between, Scheme. Conditions: those stated. -/
import Derived.Test.YthpjeclhignciaaDoorT6
namespace Go.Proofs.YthpjeclhignciaaDoor
open Go Go.RowKit Go.Shelf
attribute [local go_sem] Oper.semAt_some

/-- A date's value, its cells. -/
structure Dt where
  Y : Int
  M : Int
  S : Bool
  D : Int
def dtA (d : Dt) : Value := .agg #[.int .i64 d.Y, .int .i64 d.M, .bool d.S, .int .i64 d.D]
def dtV (d : Dt) : List Value := [.int .i64 d.Y, .int .i64 d.M, .bool d.S, .int .i64 d.D]
def dtsV (l : List Dt) : List Value := l.flatMap dtV
theorem dtsV_length (l : List Dt) : (dtsV l).length = l.length * 4 := by
  induction l with
  | nil => rfl
  | cons u us ih => simp only [dtsV, List.flatMap_cons, List.length_append] at ih ⊢; rw [ih]; simp [dtV]; omega
theorem dtsV_get {l : List Dt} {k : Nat} (hk : k < l.length) : (dtsV l)[k * 4]? = some (.int .i64 l[k].Y) ∧ (dtsV l)[k * 4 + 1]? = some (.int .i64 l[k].M) ∧ (dtsV l)[k * 4 + 2]? = some (.bool l[k].S) ∧ (dtsV l)[k * 4 + 3]? = some (.int .i64 l[k].D) := by
  induction l generalizing k with
  | nil => simp at hk
  | cons u us ih =>
    have e : dtsV (u :: us) = .int .i64 u.Y :: .int .i64 u.M :: .bool u.S :: .int .i64 u.D :: dtsV us := rfl
    cases k with
    | zero => rw [e]; simp
    | succ k =>
      have := ih (k := k) (by simpa using hk)
      rw [e, show (k + 1) * 4 = k * 4 + 1 + 1 + 1 + 1 from by omega]
      simpa using this
/-- Is a date in a valid calendar? -/
def inB (ys : List Yr) (d : Dt) : Bool := inF ys d.Y d.M d.S d.D

set_option maxRecDepth 100000 in
set_option maxHeartbeats 4000000 in
theorem in_any (v : Value) (ks : List ByteArray) (ys : List Yr) (d : Dt) (w : World) (hv : CalV w v ks ys) (hok : ∀ y ∈ ys, 0 ≤ y.long ∧ y.long ≤ 8191) (hlen : ys.length ≤ 400) :
    Calls Tryd.prog 25 #[v, dtA d] w fun e w' => e = .returned (.bool (inB ys d)) ∧ Below w.heap.size w w' := by
  obtain ⟨Ak, nk, ck, Ay, ny, cy, rfl, hk, hy⟩ := hv
  obtain ⟨Y, M, S, D⟩ := d
  have Y0 := (Cel.new w 25 #[.slice Ak nk ck, .slice Ay ny cy]).alloc (.cells #[.int .i64 Y, .int .i64 M, .bool S, .int .i64 D] 29)
  have Y1 := Cel.new (w.alloc (.cells #[.slice Ak nk ck, .slice Ay ny cy] 25)) 29 #[.int .i64 Y, .int .i64 M, .bool S, .int .i64 D]
  simp only [World.size_alloc] at Y1
  have hB0 : Below w.heap.size w ((w.alloc (.cells #[.slice Ak nk ck, .slice Ay ny cy] 25)).alloc (.cells #[.int .i64 Y, .int .i64 M, .bool S, .int .i64 D] 29)) := (below_alloc' _ _).alloc (by simp) _
  obtain ⟨A', n', c', e, hnl, hnc, hcm, hcl⟩ := (hy.below hB0).open2 (by decide)
  cases e
  rw [yearsV_length] at hnl
  obtain rfl : ny = ys.length := by omega
  have HC := Lib.hid hcl
  clear hcl hk hy hnl
  have HR0 := Lib.hid (show ∀ b, b = false → decide (0 ≤ Y ∧ Y < ys.length ∧ 1 ≤ M ∧ M ≤ 12) = b → inB ys ⟨Y, M, S, D⟩ = false from fun b h1 h2 => by unfold inB inF; rw [h2, h1]; rfl)
  go_enter Tryd.func25, Tryd.ntmps25
  simp only [dtA]
  cases x1 : decide (Y < 0) with
  | true =>
    have HR := Lib.hid (HR0.out false rfl (decide_eq_false (by have := of_decide_eq_true x1; omega)))
    go_wp2
    go_ret
    exact ⟨by rw [HR.out]; rfl, hB0⟩
  | false =>
  cases x2 : decide ((ys.length : Int) ≤ Y) with
  | true =>
    have HR := Lib.hid (HR0.out false rfl (decide_eq_false (by have := of_decide_eq_true x2; omega)))
    go_wp2
    go_ret
    exact ⟨by rw [HR.out]; rfl, hB0⟩
  | false =>
  cases x3 : decide (M < 1) with
  | true =>
    have HR := Lib.hid (HR0.out false rfl (decide_eq_false (by have := of_decide_eq_true x3; omega)))
    go_wp2
    go_ret
    exact ⟨by rw [HR.out]; rfl, hB0⟩
  | false =>
  cases x4 : decide (12 < M) with
  | true =>
    have HR := Lib.hid (HR0.out false rfl (decide_eq_false (by have := of_decide_eq_true x4; omega)))
    go_wp2
    go_ret
    exact ⟨by rw [HR.out]; rfl, hB0⟩
  | false =>
    obtain ⟨n, rfl⟩ : ∃ n : Nat, Y = n := ⟨Y.toNat, by have := of_decide_eq_false x1; omega⟩
    obtain ⟨m, rfl⟩ : ∃ m : Nat, M = m := ⟨M.toNat, by have := of_decide_eq_false x3; omega⟩
    have hn : n < ys.length := by have := of_decide_eq_false x2; omega
    have hm1 : 1 ≤ m := by have := of_decide_eq_false x3; omega
    have hm2 : m ≤ 12 := by have := of_decide_eq_false x4; omega
    have hnI : (n : Int) < (ys.length : Int) := by omega
    obtain ⟨b, o, e, hb, hce⟩ := HC.out (by omega)
    subst e
    obtain ⟨g0, g1, g2, g3⟩ := yearsV_get hn
    have e0 := hce _ _ g0
    have e1 := hce _ _ g1
    have e2 := hce _ _ g2
    have e3 := hce _ _ g3
    rw [← Nat.add_assoc] at e1 e2 e3
    obtain ⟨l1, l2⟩ := hok _ (List.getElem_mem hn)
    have HR := Lib.hid (show inB ys ⟨(n : Int), (m : Int), S, D⟩ = ((!S || (ys[n].dbl == (m : Int))) && (decide (1 ≤ D) && decide (D ≤ lenF ys[n].long m S))) by
      unfold inB inF
      rw [decide_eq_true (show 0 ≤ (n : Int) ∧ (n : Int) < ys.length ∧ 1 ≤ (m : Int) ∧ (m : Int) ≤ 12 by omega)]
      simp only [Int.toNat_natCast, List.getElem?_eq_getElem hn, Bool.true_and]
      rfl)
    clear hce g0 g1 g2 g3 HC HR0 hok
    generalize ys[n] = y at *
    have hYb := Cel.new ((w.alloc (.cells #[.slice Ak nk ck, .slice (some ⟨b, o, none⟩) ys.length cy] 25)).alloc (.cells #[.int .i64 (n : Int), .int .i64 (m : Int), .bool S, .int .i64 D] 29)) 51 #[.int .i64 y.king, .string y.name, .int .i64 y.long, .int .i64 y.dbl]
    have Y2 := Y1.alloc (.cells #[.int .i64 y.king, .string y.name, .int .i64 y.long, .int .i64 y.dbl] 51)
    have hB1 := hB0.alloc hB0.size (.cells #[.int .i64 y.king, .string y.name, .int .i64 y.long, .int .i64 y.dbl] 51)
    simp only [World.size_alloc] at hYb
    go_wp2
    obtain ⟨V, hV⟩ : ∃ V, ((w.alloc (.cells #[.slice Ak nk ck, .slice (some ⟨b, o, none⟩) ys.length cy] 25)).alloc (.cells #[.int .i64 (n : Int), .int .i64 (m : Int), .bool S, .int .i64 D] 29)).alloc (.cells #[.int .i64 y.king, .string y.name, .int .i64 y.long, .int .i64 y.dbl] 51) = V := ⟨_, rfl⟩
    rw [hV] at hYb Y2 hB1 ⊢
    clear hV Y0 Y1 hB0 e0 e1 e2 e3 hb
    have HX : Hid (∀ w', Below V.heap.size V w' → w'.cell? ⟨w.heap.size + 1, 0, none⟩ = some (.int .i64 (n : Int)) ∧ w'.cell? ⟨w.heap.size + 1, 1, none⟩ = some (.int .i64 (m : Int)) ∧ w'.cell? ⟨w.heap.size + 1, 2, none⟩ = some (.bool S) ∧ w'.cell? ⟨w.heap.size + 1, 3, none⟩ = some (.int .i64 D) ∧
      w'.cell? ⟨w.heap.size + 1 + 1, 0, none⟩ = some (.int .i64 y.king) ∧ w'.cell? ⟨w.heap.size + 1 + 1, 1, none⟩ = some (.string y.name) ∧ w'.cell? ⟨w.heap.size + 1 + 1, 2, none⟩ = some (.int .i64 y.long) ∧ w'.cell? ⟨w.heap.size + 1 + 1, 3, none⟩ = some (.int .i64 y.dbl)) := fun w' hb => by
      have h1 := Y2.below Y2.lt hb
      have h2 := hYb.below hYb.lt hb
      exact ⟨h1.cell 0 _ rfl, h1.cell 1 _ rfl, h1.cell 2 _ rfl, h1.cell 3 _ rfl, h2.cell 0 _ rfl, h2.cell 1 _ rfl, h2.cell 2 _ rfl, h2.cell 3 _ rfl⟩
    clear Y2 hYb
    cases S with
    | false =>
      cases xd : decide (1 ≤ D) with
      | true =>
        clear x1 x2 x3 x4
        refine wp_region_held_drew (S := fun w' => Below V.heap.size V w') (by kernel_rfl) (below_drew (Below.refl _ _)) (fun hHeld => ?_)
        refine wpAnyH_takeD (i := 0) (v := ?_) 33 rfl (by kernel_rfl) (by kernel_rfl) (by kernel_rfl) (fun _ _ _ h => h) (Or.inl ⟨by rfl, ?_⟩) (by assumption) rfl ?_
        rotate_left
        · intro w' hSw
          obtain ⟨c0, c1, c2, c3, z0, z1, z2, z3⟩ := HX.out w' hSw
          go_simp <;> with_reducible rfl
        simp only [List.setIfInBounds_toArray, List.set_cons_succ, List.set_cons_zero]
        refine wpAnyH_takeD (i := 1) (v := ?_) 34 rfl (by kernel_rfl) (by kernel_rfl) (by kernel_rfl) (fun _ _ _ h => h) (Or.inl ⟨by rfl, ?_⟩) (by assumption) rfl ?_
        rotate_left
        · intro w' hSw
          obtain ⟨c0, c1, c2, c3, z0, z1, z2, z3⟩ := HX.out w' hSw
          go_simp <;> with_reducible rfl
        simp only [List.setIfInBounds_toArray, List.set_cons_succ, List.set_cons_zero]
        refine wpAnyH_takeD (i := 2) (v := ?_) 35 rfl (by kernel_rfl) (by kernel_rfl) (by kernel_rfl) (fun _ _ _ h => h) (Or.inl ⟨by rfl, ?_⟩) (by assumption) rfl ?_
        rotate_left
        · intro w' hSw
          obtain ⟨c0, c1, c2, c3, z0, z1, z2, z3⟩ := HX.out w' hSw
          go_simp <;> with_reducible rfl
        simp only [List.setIfInBounds_toArray, List.set_cons_succ, List.set_cons_zero]
        refine wpAnyH_takeD (i := 3) (v := ?_) 36 rfl (by kernel_rfl) (by kernel_rfl) (by kernel_rfl) (fun _ _ _ h => h) (Or.inl ⟨by rfl, ?_⟩) (by assumption) rfl ?_
        rotate_left
        · intro w' hSw
          obtain ⟨c0, c1, c2, c3, z0, z1, z2, z3⟩ := HX.out w' hSw
          go_simp <;> with_reducible rfl
        simp only [List.setIfInBounds_toArray, List.set_cons_succ, List.set_cons_zero]
        refine wpAnyH_takeD (i := 4) 37 rfl (by kernel_rfl) (by kernel_rfl) (by kernel_rfl) (fun _ _ _ h => h) (Or.inr ⟨by kernel_rfl, rfl⟩) (by assumption) rfl ?_
        simp only [List.setIfInBounds_toArray, List.set_cons_succ, List.set_cons_zero]
        refine wpAnyH_takeD (i := 5) 38 rfl (by kernel_rfl) (by kernel_rfl) (by kernel_rfl) (fun _ _ _ h => h) (Or.inr ⟨by kernel_rfl, rfl⟩) (by assumption) rfl ?_
        simp only [List.setIfInBounds_toArray, List.set_cons_succ, List.set_cons_zero]
        refine wpAnyH_takeD (i := 6) 39 rfl (by kernel_rfl) (by kernel_rfl) (by kernel_rfl) (fun _ _ _ h => h) (Or.inr ⟨by kernel_rfl, rfl⟩) (by assumption) rfl ?_
        simp only [List.setIfInBounds_toArray, List.set_cons_succ, List.set_cons_zero]
        refine wpAnyH_takeD (i := 7) 40 rfl (by kernel_rfl) (by kernel_rfl) (by kernel_rfl) (fun _ _ _ h => h) (Or.inr ⟨by kernel_rfl, rfl⟩) (by assumption) rfl ?_
        simp only [List.setIfInBounds_toArray, List.set_cons_succ, List.set_cons_zero]
        refine wpAnyH_takeD (i := 8) 41 rfl (by kernel_rfl) (by kernel_rfl) (by kernel_rfl) (fun _ _ _ h => h) (Or.inr ⟨by kernel_rfl, rfl⟩) (by assumption) rfl ?_
        simp only [List.setIfInBounds_toArray, List.set_cons_succ, List.set_cons_zero]
        refine wpAnyH_takeD (i := 9) (v := ?_) 42 rfl (by kernel_rfl) (by kernel_rfl) (by kernel_rfl) (fun _ _ _ h => h) (Or.inl ⟨by rfl, ?_⟩) (by assumption) rfl ?_
        rotate_left
        · intro w' hSw
          obtain ⟨c0, c1, c2, c3, z0, z1, z2, z3⟩ := HX.out w' hSw
          go_simp <;> with_reducible rfl
        simp only [List.setIfInBounds_toArray, List.set_cons_succ, List.set_cons_zero]
        refine wpAnyH_takeD (i := 10) (v := ?_) 43 rfl (by kernel_rfl) (by kernel_rfl) (by kernel_rfl) (fun _ _ _ h => h) (Or.inl ⟨by rfl, ?_⟩) (by assumption) rfl ?_
        rotate_left
        · intro w' hSw
          obtain ⟨c0, c1, c2, c3, z0, z1, z2, z3⟩ := HX.out w' hSw
          go_simp <;> with_reducible rfl
        simp only [List.setIfInBounds_toArray, List.set_cons_succ, List.set_cons_zero]
        refine wpAnyH_takeD (i := 11) (v := ?_) 44 rfl (by kernel_rfl) (by kernel_rfl) (by kernel_rfl) (fun _ _ _ h => h) (Or.inl ⟨by rfl, ?_⟩) (by assumption) rfl ?_
        rotate_left
        · intro w' hSw
          obtain ⟨c0, c1, c2, c3, z0, z1, z2, z3⟩ := HX.out w' hSw
          go_simp <;> with_reducible rfl
        simp only [List.setIfInBounds_toArray, List.set_cons_succ, List.set_cons_zero]
        refine wpAnyH_takeD (i := 12) (v := ?_) 45 rfl (by kernel_rfl) (by kernel_rfl) (by kernel_rfl) (fun _ _ _ h => h) (Or.inl ⟨by rfl, ?_⟩) (by assumption) rfl ?_
        rotate_left
        · intro w' hSw
          obtain ⟨c0, c1, c2, c3, z0, z1, z2, z3⟩ := HX.out w' hSw
          go_simp <;> with_reducible rfl
        simp only [List.setIfInBounds_toArray, List.set_cons_succ, List.set_cons_zero]
        refine wpAnyH_takeD (i := 13) (v := ?_) 46 rfl (by kernel_rfl) (by kernel_rfl) (by kernel_rfl) (fun _ _ _ h => h) (Or.inl ⟨by rfl, ?_⟩) (by assumption) rfl ?_
        rotate_left
        · intro w' hSw
          obtain ⟨c0, c1, c2, c3, z0, z1, z2, z3⟩ := HX.out w' hSw
          go_simp <;> with_reducible rfl
        simp only [List.setIfInBounds_toArray, List.set_cons_succ, List.set_cons_zero]
        refine wpAnyH_takeD (i := 14) (v := ?_) 47 rfl (by kernel_rfl) (by kernel_rfl) (by kernel_rfl) (fun _ _ _ h => h) (Or.inl ⟨by rfl, ?_⟩) (by assumption) rfl ?_
        rotate_left
        · intro w' hSw
          obtain ⟨c0, c1, c2, c3, z0, z1, z2, z3⟩ := HX.out w' hSw
          go_simp <;> with_reducible rfl
        simp only [List.setIfInBounds_toArray, List.set_cons_succ, List.set_cons_zero]
        refine wpAnyH_takeD (i := 15) (v := ?_) 48 rfl (by kernel_rfl) (by kernel_rfl) (by kernel_rfl) (fun _ _ _ h => h) (Or.inl ⟨by rfl, ?_⟩) (by assumption) rfl ?_
        rotate_left
        · intro w' hSw
          obtain ⟨c0, c1, c2, c3, z0, z1, z2, z3⟩ := HX.out w' hSw
          go_simp <;> with_reducible rfl
        simp only [List.setIfInBounds_toArray, List.set_cons_succ, List.set_cons_zero]
        refine wpAnyH_takeD (i := 16) (v := ?_) 49 rfl (by kernel_rfl) (by kernel_rfl) (by kernel_rfl) (fun _ _ _ h => h) (Or.inl ⟨by rfl, ?_⟩) (by assumption) rfl ?_
        rotate_left
        · intro w' hSw
          obtain ⟨c0, c1, c2, c3, z0, z1, z2, z3⟩ := HX.out w' hSw
          go_simp <;> with_reducible rfl
        simp only [List.setIfInBounds_toArray, List.set_cons_succ, List.set_cons_zero]
        refine wpAnyH_takeD (i := 17) (v := ?_) 50 rfl (by kernel_rfl) (by kernel_rfl) (by kernel_rfl) (fun _ _ _ h => h) (Or.inl ⟨by rfl, ?_⟩) (by assumption) rfl ?_
        rotate_left
        · intro w' hSw
          obtain ⟨c0, c1, c2, c3, z0, z1, z2, z3⟩ := HX.out w' hSw
          go_simp <;> with_reducible rfl
        simp only [List.setIfInBounds_toArray, List.set_cons_succ, List.set_cons_zero]
        refine wpAnyH_takeD (i := 18) (v := ?_) 51 rfl (by kernel_rfl) (by kernel_rfl) (by kernel_rfl) (fun _ _ _ h => h) (Or.inl ⟨by rfl, ?_⟩) (by assumption) rfl ?_
        rotate_left
        · intro w' hSw
          obtain ⟨c0, c1, c2, c3, z0, z1, z2, z3⟩ := HX.out w' hSw
          go_simp <;> with_reducible rfl
        simp only [List.setIfInBounds_toArray, List.set_cons_succ, List.set_cons_zero]
        refine wpAnyH_takeD (i := 19) (v := ?_) 52 rfl (by kernel_rfl) (by kernel_rfl) (by kernel_rfl) (fun _ _ _ h => h) (Or.inl ⟨by rfl, ?_⟩) (by assumption) rfl ?_
        rotate_left
        · intro w' hSw
          obtain ⟨c0, c1, c2, c3, z0, z1, z2, z3⟩ := HX.out w' hSw
          go_simp <;> with_reducible rfl
        simp only [List.setIfInBounds_toArray, List.set_cons_succ, List.set_cons_zero]
        refine wpAnyH_takeD (i := 20) (v := ?_) 53 rfl (by kernel_rfl) (by kernel_rfl) (by kernel_rfl) (fun _ _ _ h => h) (Or.inl ⟨by rfl, ?_⟩) (by assumption) rfl ?_
        rotate_left
        · intro w' hSw
          obtain ⟨c0, c1, c2, c3, z0, z1, z2, z3⟩ := HX.out w' hSw
          go_simp <;> with_reducible rfl
        simp only [List.setIfInBounds_toArray, List.set_cons_succ, List.set_cons_zero]
        refine wpAnyH_takeD (i := 21) (v := ?_) 54 rfl (by kernel_rfl) (by kernel_rfl) (by kernel_rfl) (fun _ _ _ h => h) (Or.inl ⟨by rfl, ?_⟩) (by assumption) rfl ?_
        rotate_left
        · intro w' hSw
          obtain ⟨c0, c1, c2, c3, z0, z1, z2, z3⟩ := HX.out w' hSw
          go_simp <;> with_reducible rfl
        simp only [List.setIfInBounds_toArray, List.set_cons_succ, List.set_cons_zero]
        refine wpAnyH_takeD (i := 22) (v := ?_) 55 rfl (by kernel_rfl) (by kernel_rfl) (by kernel_rfl) (fun _ _ _ h => h) (Or.inl ⟨by rfl, ?_⟩) (by assumption) rfl ?_
        rotate_left
        · intro w' hSw
          obtain ⟨c0, c1, c2, c3, z0, z1, z2, z3⟩ := HX.out w' hSw
          go_simp <;> with_reducible rfl
        simp only [List.setIfInBounds_toArray, List.set_cons_succ, List.set_cons_zero]
        refine wpAnyH_ready (rs := [23]) (by kernel_rfl) (by simp) ?_
        refine AllReadyH.cons (o := _) rfl (fun K hK => ?_) AllReadyH.nil
        go_simp
        go_at_call 42
        refine (length_any y m false _ l1 l2 (by omega) (by omega)).mono ?_
        rintro e w1 ⟨rfl, hb1⟩
        have HB1 := Lib.hid (show Below V.heap.size V w1 from below_undrew hb1)
        clear hb1
        refine hK.out _ _ HB1.out (fun hHeld1 => ?_)
        clear hK K
        refine wpAnyH_takeD (i := 24) (v := ?_) 57 rfl (by kernel_rfl) (by kernel_rfl) (by kernel_rfl) (fun _ _ _ h => h) (Or.inl ⟨by rfl, ?_⟩) (by assumption) rfl ?_
        rotate_left
        · intro w' hSw
          obtain ⟨c0, c1, c2, c3, z0, z1, z2, z3⟩ := HX.out w' hSw
          go_simp <;> with_reducible rfl
        simp only [List.setIfInBounds_toArray, List.set_cons_succ, List.set_cons_zero]
        refine wpAnyH_takeD (i := 25) (v := ?_) 58 rfl (by kernel_rfl) (by kernel_rfl) (by kernel_rfl) (fun _ _ _ h => h) (Or.inl ⟨by rfl, ?_⟩) (by assumption) rfl ?_
        rotate_left
        · intro w' hSw
          obtain ⟨c0, c1, c2, c3, z0, z1, z2, z3⟩ := HX.out w' hSw
          go_simp <;> with_reducible rfl
        simp only [List.setIfInBounds_toArray, List.set_cons_succ, List.set_cons_zero]
        refine wpAnyH_takeD (i := 26) (v := ?_) 4 rfl (by kernel_rfl) (by kernel_rfl) (by kernel_rfl) (fun _ _ _ h => h) (Or.inl ⟨by rfl, ?_⟩) (by assumption) rfl ?_
        rotate_left
        · intro w' hSw
          obtain ⟨c0, c1, c2, c3, z0, z1, z2, z3⟩ := HX.out w' hSw
          go_simp <;> with_reducible rfl
        simp only [List.setIfInBounds_toArray, List.set_cons_succ, List.set_cons_zero]
        refine wpAnyH_done (by kernel_rfl) ?_ _
        go_wp2
        go_ret
        exact ⟨by rw [HR.out, xd]; rfl, hB1.trans (HB1.out.mono hB1.size)⟩
      | false =>
        clear x1 x2 x3 x4
        refine wp_region_held_drew (S := fun w' => Below V.heap.size V w') (by kernel_rfl) (below_drew (Below.refl _ _)) (fun hHeld => ?_)
        refine wpAnyH_takeD (i := 0) (v := ?_) 33 rfl (by kernel_rfl) (by kernel_rfl) (by kernel_rfl) (fun _ _ _ h => h) (Or.inl ⟨by rfl, ?_⟩) (by assumption) rfl ?_
        rotate_left
        · intro w' hSw
          obtain ⟨c0, c1, c2, c3, z0, z1, z2, z3⟩ := HX.out w' hSw
          go_simp <;> with_reducible rfl
        simp only [List.setIfInBounds_toArray, List.set_cons_succ, List.set_cons_zero]
        refine wpAnyH_takeD (i := 1) (v := ?_) 34 rfl (by kernel_rfl) (by kernel_rfl) (by kernel_rfl) (fun _ _ _ h => h) (Or.inl ⟨by rfl, ?_⟩) (by assumption) rfl ?_
        rotate_left
        · intro w' hSw
          obtain ⟨c0, c1, c2, c3, z0, z1, z2, z3⟩ := HX.out w' hSw
          go_simp <;> with_reducible rfl
        simp only [List.setIfInBounds_toArray, List.set_cons_succ, List.set_cons_zero]
        refine wpAnyH_takeD (i := 2) (v := ?_) 35 rfl (by kernel_rfl) (by kernel_rfl) (by kernel_rfl) (fun _ _ _ h => h) (Or.inl ⟨by rfl, ?_⟩) (by assumption) rfl ?_
        rotate_left
        · intro w' hSw
          obtain ⟨c0, c1, c2, c3, z0, z1, z2, z3⟩ := HX.out w' hSw
          go_simp <;> with_reducible rfl
        simp only [List.setIfInBounds_toArray, List.set_cons_succ, List.set_cons_zero]
        refine wpAnyH_takeD (i := 3) (v := ?_) 36 rfl (by kernel_rfl) (by kernel_rfl) (by kernel_rfl) (fun _ _ _ h => h) (Or.inl ⟨by rfl, ?_⟩) (by assumption) rfl ?_
        rotate_left
        · intro w' hSw
          obtain ⟨c0, c1, c2, c3, z0, z1, z2, z3⟩ := HX.out w' hSw
          go_simp <;> with_reducible rfl
        simp only [List.setIfInBounds_toArray, List.set_cons_succ, List.set_cons_zero]
        refine wpAnyH_takeD (i := 4) 37 rfl (by kernel_rfl) (by kernel_rfl) (by kernel_rfl) (fun _ _ _ h => h) (Or.inr ⟨by kernel_rfl, rfl⟩) (by assumption) rfl ?_
        simp only [List.setIfInBounds_toArray, List.set_cons_succ, List.set_cons_zero]
        refine wpAnyH_takeD (i := 5) 38 rfl (by kernel_rfl) (by kernel_rfl) (by kernel_rfl) (fun _ _ _ h => h) (Or.inr ⟨by kernel_rfl, rfl⟩) (by assumption) rfl ?_
        simp only [List.setIfInBounds_toArray, List.set_cons_succ, List.set_cons_zero]
        refine wpAnyH_takeD (i := 6) 39 rfl (by kernel_rfl) (by kernel_rfl) (by kernel_rfl) (fun _ _ _ h => h) (Or.inr ⟨by kernel_rfl, rfl⟩) (by assumption) rfl ?_
        simp only [List.setIfInBounds_toArray, List.set_cons_succ, List.set_cons_zero]
        refine wpAnyH_takeD (i := 7) 40 rfl (by kernel_rfl) (by kernel_rfl) (by kernel_rfl) (fun _ _ _ h => h) (Or.inr ⟨by kernel_rfl, rfl⟩) (by assumption) rfl ?_
        simp only [List.setIfInBounds_toArray, List.set_cons_succ, List.set_cons_zero]
        refine wpAnyH_takeD (i := 8) 41 rfl (by kernel_rfl) (by kernel_rfl) (by kernel_rfl) (fun _ _ _ h => h) (Or.inr ⟨by kernel_rfl, rfl⟩) (by assumption) rfl ?_
        simp only [List.setIfInBounds_toArray, List.set_cons_succ, List.set_cons_zero]
        refine wpAnyH_takeD (i := 9) (v := ?_) 42 rfl (by kernel_rfl) (by kernel_rfl) (by kernel_rfl) (fun _ _ _ h => h) (Or.inl ⟨by rfl, ?_⟩) (by assumption) rfl ?_
        rotate_left
        · intro w' hSw
          obtain ⟨c0, c1, c2, c3, z0, z1, z2, z3⟩ := HX.out w' hSw
          go_simp <;> with_reducible rfl
        simp only [List.setIfInBounds_toArray, List.set_cons_succ, List.set_cons_zero]
        refine wpAnyH_takeD (i := 10) (v := ?_) 43 rfl (by kernel_rfl) (by kernel_rfl) (by kernel_rfl) (fun _ _ _ h => h) (Or.inl ⟨by rfl, ?_⟩) (by assumption) rfl ?_
        rotate_left
        · intro w' hSw
          obtain ⟨c0, c1, c2, c3, z0, z1, z2, z3⟩ := HX.out w' hSw
          go_simp <;> with_reducible rfl
        simp only [List.setIfInBounds_toArray, List.set_cons_succ, List.set_cons_zero]
        refine wpAnyH_takeD (i := 11) (v := ?_) 44 rfl (by kernel_rfl) (by kernel_rfl) (by kernel_rfl) (fun _ _ _ h => h) (Or.inl ⟨by rfl, ?_⟩) (by assumption) rfl ?_
        rotate_left
        · intro w' hSw
          obtain ⟨c0, c1, c2, c3, z0, z1, z2, z3⟩ := HX.out w' hSw
          go_simp <;> with_reducible rfl
        simp only [List.setIfInBounds_toArray, List.set_cons_succ, List.set_cons_zero]
        refine wpAnyH_takeD (i := 12) (v := ?_) 45 rfl (by kernel_rfl) (by kernel_rfl) (by kernel_rfl) (fun _ _ _ h => h) (Or.inl ⟨by rfl, ?_⟩) (by assumption) rfl ?_
        rotate_left
        · intro w' hSw
          obtain ⟨c0, c1, c2, c3, z0, z1, z2, z3⟩ := HX.out w' hSw
          go_simp <;> with_reducible rfl
        simp only [List.setIfInBounds_toArray, List.set_cons_succ, List.set_cons_zero]
        refine wpAnyH_takeD (i := 13) (v := ?_) 46 rfl (by kernel_rfl) (by kernel_rfl) (by kernel_rfl) (fun _ _ _ h => h) (Or.inl ⟨by rfl, ?_⟩) (by assumption) rfl ?_
        rotate_left
        · intro w' hSw
          obtain ⟨c0, c1, c2, c3, z0, z1, z2, z3⟩ := HX.out w' hSw
          go_simp <;> with_reducible rfl
        simp only [List.setIfInBounds_toArray, List.set_cons_succ, List.set_cons_zero]
        refine wpAnyH_takeD (i := 14) (v := ?_) 47 rfl (by kernel_rfl) (by kernel_rfl) (by kernel_rfl) (fun _ _ _ h => h) (Or.inl ⟨by rfl, ?_⟩) (by assumption) rfl ?_
        rotate_left
        · intro w' hSw
          obtain ⟨c0, c1, c2, c3, z0, z1, z2, z3⟩ := HX.out w' hSw
          go_simp <;> with_reducible rfl
        simp only [List.setIfInBounds_toArray, List.set_cons_succ, List.set_cons_zero]
        refine wpAnyH_takeD (i := 15) (v := ?_) 48 rfl (by kernel_rfl) (by kernel_rfl) (by kernel_rfl) (fun _ _ _ h => h) (Or.inl ⟨by rfl, ?_⟩) (by assumption) rfl ?_
        rotate_left
        · intro w' hSw
          obtain ⟨c0, c1, c2, c3, z0, z1, z2, z3⟩ := HX.out w' hSw
          go_simp <;> with_reducible rfl
        simp only [List.setIfInBounds_toArray, List.set_cons_succ, List.set_cons_zero]
        refine wpAnyH_takeD (i := 16) 49 rfl (by kernel_rfl) (by kernel_rfl) (by kernel_rfl) (fun _ _ _ h => h) (Or.inr ⟨by kernel_rfl, rfl⟩) (by assumption) rfl ?_
        simp only [List.setIfInBounds_toArray, List.set_cons_succ, List.set_cons_zero]
        refine wpAnyH_takeD (i := 17) 50 rfl (by kernel_rfl) (by kernel_rfl) (by kernel_rfl) (fun _ _ _ h => h) (Or.inr ⟨by kernel_rfl, rfl⟩) (by assumption) rfl ?_
        simp only [List.setIfInBounds_toArray, List.set_cons_succ, List.set_cons_zero]
        refine wpAnyH_takeD (i := 18) 51 rfl (by kernel_rfl) (by kernel_rfl) (by kernel_rfl) (fun _ _ _ h => h) (Or.inr ⟨by kernel_rfl, rfl⟩) (by assumption) rfl ?_
        simp only [List.setIfInBounds_toArray, List.set_cons_succ, List.set_cons_zero]
        refine wpAnyH_takeD (i := 19) 52 rfl (by kernel_rfl) (by kernel_rfl) (by kernel_rfl) (fun _ _ _ h => h) (Or.inr ⟨by kernel_rfl, rfl⟩) (by assumption) rfl ?_
        simp only [List.setIfInBounds_toArray, List.set_cons_succ, List.set_cons_zero]
        refine wpAnyH_takeD (i := 20) 53 rfl (by kernel_rfl) (by kernel_rfl) (by kernel_rfl) (fun _ _ _ h => h) (Or.inr ⟨by kernel_rfl, rfl⟩) (by assumption) rfl ?_
        simp only [List.setIfInBounds_toArray, List.set_cons_succ, List.set_cons_zero]
        refine wpAnyH_takeD (i := 21) 54 rfl (by kernel_rfl) (by kernel_rfl) (by kernel_rfl) (fun _ _ _ h => h) (Or.inr ⟨by kernel_rfl, rfl⟩) (by assumption) rfl ?_
        simp only [List.setIfInBounds_toArray, List.set_cons_succ, List.set_cons_zero]
        refine wpAnyH_takeD (i := 22) 55 rfl (by kernel_rfl) (by kernel_rfl) (by kernel_rfl) (fun _ _ _ h => h) (Or.inr ⟨by kernel_rfl, rfl⟩) (by assumption) rfl ?_
        simp only [List.setIfInBounds_toArray, List.set_cons_succ, List.set_cons_zero]
        refine wpAnyH_takeD (i := 23) 56 rfl (by kernel_rfl) (by kernel_rfl) (by kernel_rfl) (fun _ _ _ h => h) (Or.inr ⟨by kernel_rfl, rfl⟩) (by assumption) rfl ?_
        simp only [List.setIfInBounds_toArray, List.set_cons_succ, List.set_cons_zero]
        refine wpAnyH_takeD (i := 24) 57 rfl (by kernel_rfl) (by kernel_rfl) (by kernel_rfl) (fun _ _ _ h => h) (Or.inr ⟨by kernel_rfl, rfl⟩) (by assumption) rfl ?_
        simp only [List.setIfInBounds_toArray, List.set_cons_succ, List.set_cons_zero]
        refine wpAnyH_takeD (i := 25) (v := ?_) 58 rfl (by kernel_rfl) (by kernel_rfl) (by kernel_rfl) (fun _ _ _ h => h) (Or.inl ⟨by rfl, ?_⟩) (by assumption) rfl ?_
        rotate_left
        · intro w' hSw
          obtain ⟨c0, c1, c2, c3, z0, z1, z2, z3⟩ := HX.out w' hSw
          go_simp <;> with_reducible rfl
        simp only [List.setIfInBounds_toArray, List.set_cons_succ, List.set_cons_zero]
        refine wpAnyH_takeD (i := 26) (v := ?_) 4 rfl (by kernel_rfl) (by kernel_rfl) (by kernel_rfl) (fun _ _ _ h => h) (Or.inl ⟨by rfl, ?_⟩) (by assumption) rfl ?_
        rotate_left
        · intro w' hSw
          obtain ⟨c0, c1, c2, c3, z0, z1, z2, z3⟩ := HX.out w' hSw
          go_simp <;> with_reducible rfl
        simp only [List.setIfInBounds_toArray, List.set_cons_succ, List.set_cons_zero]
        refine wpAnyH_done (by kernel_rfl) ?_ _
        go_wp2
        go_ret
        exact ⟨by rw [HR.out, xd]; first | rfl | (simp; done) | (cases decide (1 ≤ D) <;> rfl), below_drew hB1⟩
    | true =>
      cases xe : (y.dbl == (m : Int)) with
      | false =>
        clear x1 x2 x3 x4
        refine wp_region_held_drew (S := fun w' => Below V.heap.size V w') (by kernel_rfl) (below_drew (Below.refl _ _)) (fun hHeld => ?_)
        refine wpAnyH_takeD (i := 0) (v := ?_) 33 rfl (by kernel_rfl) (by kernel_rfl) (by kernel_rfl) (fun _ _ _ h => h) (Or.inl ⟨by rfl, ?_⟩) (by assumption) rfl ?_
        rotate_left
        · intro w' hSw
          obtain ⟨c0, c1, c2, c3, z0, z1, z2, z3⟩ := HX.out w' hSw
          go_simp <;> with_reducible rfl
        simp only [List.setIfInBounds_toArray, List.set_cons_succ, List.set_cons_zero]
        refine wpAnyH_takeD (i := 1) (v := ?_) 34 rfl (by kernel_rfl) (by kernel_rfl) (by kernel_rfl) (fun _ _ _ h => h) (Or.inl ⟨by rfl, ?_⟩) (by assumption) rfl ?_
        rotate_left
        · intro w' hSw
          obtain ⟨c0, c1, c2, c3, z0, z1, z2, z3⟩ := HX.out w' hSw
          go_simp <;> with_reducible rfl
        simp only [List.setIfInBounds_toArray, List.set_cons_succ, List.set_cons_zero]
        refine wpAnyH_takeD (i := 2) (v := ?_) 35 rfl (by kernel_rfl) (by kernel_rfl) (by kernel_rfl) (fun _ _ _ h => h) (Or.inl ⟨by rfl, ?_⟩) (by assumption) rfl ?_
        rotate_left
        · intro w' hSw
          obtain ⟨c0, c1, c2, c3, z0, z1, z2, z3⟩ := HX.out w' hSw
          go_simp <;> with_reducible rfl
        simp only [List.setIfInBounds_toArray, List.set_cons_succ, List.set_cons_zero]
        refine wpAnyH_takeD (i := 3) (v := ?_) 36 rfl (by kernel_rfl) (by kernel_rfl) (by kernel_rfl) (fun _ _ _ h => h) (Or.inl ⟨by rfl, ?_⟩) (by assumption) rfl ?_
        rotate_left
        · intro w' hSw
          obtain ⟨c0, c1, c2, c3, z0, z1, z2, z3⟩ := HX.out w' hSw
          go_simp <;> with_reducible rfl
        simp only [List.setIfInBounds_toArray, List.set_cons_succ, List.set_cons_zero]
        refine wpAnyH_takeD (i := 4) (v := ?_) 37 rfl (by kernel_rfl) (by kernel_rfl) (by kernel_rfl) (fun _ _ _ h => h) (Or.inl ⟨by rfl, ?_⟩) (by assumption) rfl ?_
        rotate_left
        · intro w' hSw
          obtain ⟨c0, c1, c2, c3, z0, z1, z2, z3⟩ := HX.out w' hSw
          go_simp <;> with_reducible rfl
        simp only [List.setIfInBounds_toArray, List.set_cons_succ, List.set_cons_zero]
        refine wpAnyH_takeD (i := 5) (v := ?_) 38 rfl (by kernel_rfl) (by kernel_rfl) (by kernel_rfl) (fun _ _ _ h => h) (Or.inl ⟨by rfl, ?_⟩) (by assumption) rfl ?_
        rotate_left
        · intro w' hSw
          obtain ⟨c0, c1, c2, c3, z0, z1, z2, z3⟩ := HX.out w' hSw
          go_simp <;> with_reducible rfl
        simp only [List.setIfInBounds_toArray, List.set_cons_succ, List.set_cons_zero]
        refine wpAnyH_takeD (i := 6) (v := ?_) 39 rfl (by kernel_rfl) (by kernel_rfl) (by kernel_rfl) (fun _ _ _ h => h) (Or.inl ⟨by rfl, ?_⟩) (by assumption) rfl ?_
        rotate_left
        · intro w' hSw
          obtain ⟨c0, c1, c2, c3, z0, z1, z2, z3⟩ := HX.out w' hSw
          go_simp <;> with_reducible rfl
        simp only [List.setIfInBounds_toArray, List.set_cons_succ, List.set_cons_zero]
        refine wpAnyH_takeD (i := 7) (v := ?_) 40 rfl (by kernel_rfl) (by kernel_rfl) (by kernel_rfl) (fun _ _ _ h => h) (Or.inl ⟨by rfl, ?_⟩) (by assumption) rfl ?_
        rotate_left
        · intro w' hSw
          obtain ⟨c0, c1, c2, c3, z0, z1, z2, z3⟩ := HX.out w' hSw
          go_simp <;> with_reducible rfl
        simp only [List.setIfInBounds_toArray, List.set_cons_succ, List.set_cons_zero]
        refine wpAnyH_takeD (i := 8) (v := ?_) 41 rfl (by kernel_rfl) (by kernel_rfl) (by kernel_rfl) (fun _ _ _ h => h) (Or.inl ⟨by rfl, ?_⟩) (by assumption) rfl ?_
        rotate_left
        · intro w' hSw
          obtain ⟨c0, c1, c2, c3, z0, z1, z2, z3⟩ := HX.out w' hSw
          go_simp <;> with_reducible rfl
        simp only [List.setIfInBounds_toArray, List.set_cons_succ, List.set_cons_zero]
        refine wpAnyH_takeD (i := 9) (v := ?_) 42 rfl (by kernel_rfl) (by kernel_rfl) (by kernel_rfl) (fun _ _ _ h => h) (Or.inl ⟨by rfl, ?_⟩) (by assumption) rfl ?_
        rotate_left
        · intro w' hSw
          obtain ⟨c0, c1, c2, c3, z0, z1, z2, z3⟩ := HX.out w' hSw
          go_simp <;> with_reducible rfl
        simp only [List.setIfInBounds_toArray, List.set_cons_succ, List.set_cons_zero]
        refine wpAnyH_takeD (i := 10) (v := ?_) 43 rfl (by kernel_rfl) (by kernel_rfl) (by kernel_rfl) (fun _ _ _ h => h) (Or.inl ⟨by rfl, ?_⟩) (by assumption) rfl ?_
        rotate_left
        · intro w' hSw
          obtain ⟨c0, c1, c2, c3, z0, z1, z2, z3⟩ := HX.out w' hSw
          go_simp <;> with_reducible rfl
        simp only [List.setIfInBounds_toArray, List.set_cons_succ, List.set_cons_zero]
        refine wpAnyH_takeD (i := 11) 44 rfl (by kernel_rfl) (by kernel_rfl) (by kernel_rfl) (fun _ _ _ h => h) (Or.inr ⟨by kernel_rfl, rfl⟩) (by assumption) rfl ?_
        simp only [List.setIfInBounds_toArray, List.set_cons_succ, List.set_cons_zero]
        refine wpAnyH_takeD (i := 12) 45 rfl (by kernel_rfl) (by kernel_rfl) (by kernel_rfl) (fun _ _ _ h => h) (Or.inr ⟨by kernel_rfl, rfl⟩) (by assumption) rfl ?_
        simp only [List.setIfInBounds_toArray, List.set_cons_succ, List.set_cons_zero]
        refine wpAnyH_takeD (i := 13) 46 rfl (by kernel_rfl) (by kernel_rfl) (by kernel_rfl) (fun _ _ _ h => h) (Or.inr ⟨by kernel_rfl, rfl⟩) (by assumption) rfl ?_
        simp only [List.setIfInBounds_toArray, List.set_cons_succ, List.set_cons_zero]
        refine wpAnyH_takeD (i := 14) (v := ?_) 47 rfl (by kernel_rfl) (by kernel_rfl) (by kernel_rfl) (fun _ _ _ h => h) (Or.inl ⟨by rfl, ?_⟩) (by assumption) rfl ?_
        rotate_left
        · intro w' hSw
          obtain ⟨c0, c1, c2, c3, z0, z1, z2, z3⟩ := HX.out w' hSw
          go_simp <;> with_reducible rfl
        simp only [List.setIfInBounds_toArray, List.set_cons_succ, List.set_cons_zero]
        refine wpAnyH_takeD (i := 15) (v := ?_) 48 rfl (by kernel_rfl) (by kernel_rfl) (by kernel_rfl) (fun _ _ _ h => h) (Or.inl ⟨by rfl, ?_⟩) (by assumption) rfl ?_
        rotate_left
        · intro w' hSw
          obtain ⟨c0, c1, c2, c3, z0, z1, z2, z3⟩ := HX.out w' hSw
          go_simp <;> with_reducible rfl
        simp only [List.setIfInBounds_toArray, List.set_cons_succ, List.set_cons_zero]
        refine wpAnyH_takeD (i := 16) 49 rfl (by kernel_rfl) (by kernel_rfl) (by kernel_rfl) (fun _ _ _ h => h) (Or.inr ⟨by kernel_rfl, rfl⟩) (by assumption) rfl ?_
        simp only [List.setIfInBounds_toArray, List.set_cons_succ, List.set_cons_zero]
        refine wpAnyH_takeD (i := 17) 50 rfl (by kernel_rfl) (by kernel_rfl) (by kernel_rfl) (fun _ _ _ h => h) (Or.inr ⟨by kernel_rfl, rfl⟩) (by assumption) rfl ?_
        simp only [List.setIfInBounds_toArray, List.set_cons_succ, List.set_cons_zero]
        refine wpAnyH_takeD (i := 18) 51 rfl (by kernel_rfl) (by kernel_rfl) (by kernel_rfl) (fun _ _ _ h => h) (Or.inr ⟨by kernel_rfl, rfl⟩) (by assumption) rfl ?_
        simp only [List.setIfInBounds_toArray, List.set_cons_succ, List.set_cons_zero]
        refine wpAnyH_takeD (i := 19) 52 rfl (by kernel_rfl) (by kernel_rfl) (by kernel_rfl) (fun _ _ _ h => h) (Or.inr ⟨by kernel_rfl, rfl⟩) (by assumption) rfl ?_
        simp only [List.setIfInBounds_toArray, List.set_cons_succ, List.set_cons_zero]
        refine wpAnyH_takeD (i := 20) 53 rfl (by kernel_rfl) (by kernel_rfl) (by kernel_rfl) (fun _ _ _ h => h) (Or.inr ⟨by kernel_rfl, rfl⟩) (by assumption) rfl ?_
        simp only [List.setIfInBounds_toArray, List.set_cons_succ, List.set_cons_zero]
        refine wpAnyH_takeD (i := 21) 54 rfl (by kernel_rfl) (by kernel_rfl) (by kernel_rfl) (fun _ _ _ h => h) (Or.inr ⟨by kernel_rfl, rfl⟩) (by assumption) rfl ?_
        simp only [List.setIfInBounds_toArray, List.set_cons_succ, List.set_cons_zero]
        refine wpAnyH_takeD (i := 22) 55 rfl (by kernel_rfl) (by kernel_rfl) (by kernel_rfl) (fun _ _ _ h => h) (Or.inr ⟨by kernel_rfl, rfl⟩) (by assumption) rfl ?_
        simp only [List.setIfInBounds_toArray, List.set_cons_succ, List.set_cons_zero]
        refine wpAnyH_takeD (i := 23) 56 rfl (by kernel_rfl) (by kernel_rfl) (by kernel_rfl) (fun _ _ _ h => h) (Or.inr ⟨by kernel_rfl, rfl⟩) (by assumption) rfl ?_
        simp only [List.setIfInBounds_toArray, List.set_cons_succ, List.set_cons_zero]
        refine wpAnyH_takeD (i := 24) 57 rfl (by kernel_rfl) (by kernel_rfl) (by kernel_rfl) (fun _ _ _ h => h) (Or.inr ⟨by kernel_rfl, rfl⟩) (by assumption) rfl ?_
        simp only [List.setIfInBounds_toArray, List.set_cons_succ, List.set_cons_zero]
        refine wpAnyH_takeD (i := 25) (v := ?_) 58 rfl (by kernel_rfl) (by kernel_rfl) (by kernel_rfl) (fun _ _ _ h => h) (Or.inl ⟨by rfl, ?_⟩) (by assumption) rfl ?_
        rotate_left
        · intro w' hSw
          obtain ⟨c0, c1, c2, c3, z0, z1, z2, z3⟩ := HX.out w' hSw
          go_simp <;> with_reducible rfl
        simp only [List.setIfInBounds_toArray, List.set_cons_succ, List.set_cons_zero]
        refine wpAnyH_takeD (i := 26) (v := ?_) 4 rfl (by kernel_rfl) (by kernel_rfl) (by kernel_rfl) (fun _ _ _ h => h) (Or.inl ⟨by rfl, ?_⟩) (by assumption) rfl ?_
        rotate_left
        · intro w' hSw
          obtain ⟨c0, c1, c2, c3, z0, z1, z2, z3⟩ := HX.out w' hSw
          go_simp <;> with_reducible rfl
        simp only [List.setIfInBounds_toArray, List.set_cons_succ, List.set_cons_zero]
        refine wpAnyH_done (by kernel_rfl) ?_ _
        go_wp2
        go_ret
        exact ⟨by rw [HR.out, xe]; first | rfl | (simp; done) | (cases decide (1 ≤ D) <;> rfl), below_drew hB1⟩
      | true =>
        cases xd : decide (1 ≤ D) with
        | true =>
          clear x1 x2 x3 x4
          refine wp_region_held_drew (S := fun w' => Below V.heap.size V w') (by kernel_rfl) (below_drew (Below.refl _ _)) (fun hHeld => ?_)
          refine wpAnyH_takeD (i := 0) (v := ?_) 33 rfl (by kernel_rfl) (by kernel_rfl) (by kernel_rfl) (fun _ _ _ h => h) (Or.inl ⟨by rfl, ?_⟩) (by assumption) rfl ?_
          rotate_left
          · intro w' hSw
            obtain ⟨c0, c1, c2, c3, z0, z1, z2, z3⟩ := HX.out w' hSw
            go_simp <;> with_reducible rfl
          simp only [List.setIfInBounds_toArray, List.set_cons_succ, List.set_cons_zero]
          refine wpAnyH_takeD (i := 1) (v := ?_) 34 rfl (by kernel_rfl) (by kernel_rfl) (by kernel_rfl) (fun _ _ _ h => h) (Or.inl ⟨by rfl, ?_⟩) (by assumption) rfl ?_
          rotate_left
          · intro w' hSw
            obtain ⟨c0, c1, c2, c3, z0, z1, z2, z3⟩ := HX.out w' hSw
            go_simp <;> with_reducible rfl
          simp only [List.setIfInBounds_toArray, List.set_cons_succ, List.set_cons_zero]
          refine wpAnyH_takeD (i := 2) (v := ?_) 35 rfl (by kernel_rfl) (by kernel_rfl) (by kernel_rfl) (fun _ _ _ h => h) (Or.inl ⟨by rfl, ?_⟩) (by assumption) rfl ?_
          rotate_left
          · intro w' hSw
            obtain ⟨c0, c1, c2, c3, z0, z1, z2, z3⟩ := HX.out w' hSw
            go_simp <;> with_reducible rfl
          simp only [List.setIfInBounds_toArray, List.set_cons_succ, List.set_cons_zero]
          refine wpAnyH_takeD (i := 3) (v := ?_) 36 rfl (by kernel_rfl) (by kernel_rfl) (by kernel_rfl) (fun _ _ _ h => h) (Or.inl ⟨by rfl, ?_⟩) (by assumption) rfl ?_
          rotate_left
          · intro w' hSw
            obtain ⟨c0, c1, c2, c3, z0, z1, z2, z3⟩ := HX.out w' hSw
            go_simp <;> with_reducible rfl
          simp only [List.setIfInBounds_toArray, List.set_cons_succ, List.set_cons_zero]
          refine wpAnyH_takeD (i := 4) (v := ?_) 37 rfl (by kernel_rfl) (by kernel_rfl) (by kernel_rfl) (fun _ _ _ h => h) (Or.inl ⟨by rfl, ?_⟩) (by assumption) rfl ?_
          rotate_left
          · intro w' hSw
            obtain ⟨c0, c1, c2, c3, z0, z1, z2, z3⟩ := HX.out w' hSw
            go_simp <;> with_reducible rfl
          simp only [List.setIfInBounds_toArray, List.set_cons_succ, List.set_cons_zero]
          refine wpAnyH_takeD (i := 5) (v := ?_) 38 rfl (by kernel_rfl) (by kernel_rfl) (by kernel_rfl) (fun _ _ _ h => h) (Or.inl ⟨by rfl, ?_⟩) (by assumption) rfl ?_
          rotate_left
          · intro w' hSw
            obtain ⟨c0, c1, c2, c3, z0, z1, z2, z3⟩ := HX.out w' hSw
            go_simp <;> with_reducible rfl
          simp only [List.setIfInBounds_toArray, List.set_cons_succ, List.set_cons_zero]
          refine wpAnyH_takeD (i := 6) (v := ?_) 39 rfl (by kernel_rfl) (by kernel_rfl) (by kernel_rfl) (fun _ _ _ h => h) (Or.inl ⟨by rfl, ?_⟩) (by assumption) rfl ?_
          rotate_left
          · intro w' hSw
            obtain ⟨c0, c1, c2, c3, z0, z1, z2, z3⟩ := HX.out w' hSw
            go_simp <;> with_reducible rfl
          simp only [List.setIfInBounds_toArray, List.set_cons_succ, List.set_cons_zero]
          refine wpAnyH_takeD (i := 7) (v := ?_) 40 rfl (by kernel_rfl) (by kernel_rfl) (by kernel_rfl) (fun _ _ _ h => h) (Or.inl ⟨by rfl, ?_⟩) (by assumption) rfl ?_
          rotate_left
          · intro w' hSw
            obtain ⟨c0, c1, c2, c3, z0, z1, z2, z3⟩ := HX.out w' hSw
            go_simp <;> with_reducible rfl
          simp only [List.setIfInBounds_toArray, List.set_cons_succ, List.set_cons_zero]
          refine wpAnyH_takeD (i := 8) (v := ?_) 41 rfl (by kernel_rfl) (by kernel_rfl) (by kernel_rfl) (fun _ _ _ h => h) (Or.inl ⟨by rfl, ?_⟩) (by assumption) rfl ?_
          rotate_left
          · intro w' hSw
            obtain ⟨c0, c1, c2, c3, z0, z1, z2, z3⟩ := HX.out w' hSw
            go_simp <;> with_reducible rfl
          simp only [List.setIfInBounds_toArray, List.set_cons_succ, List.set_cons_zero]
          refine wpAnyH_takeD (i := 9) (v := ?_) 42 rfl (by kernel_rfl) (by kernel_rfl) (by kernel_rfl) (fun _ _ _ h => h) (Or.inl ⟨by rfl, ?_⟩) (by assumption) rfl ?_
          rotate_left
          · intro w' hSw
            obtain ⟨c0, c1, c2, c3, z0, z1, z2, z3⟩ := HX.out w' hSw
            go_simp <;> with_reducible rfl
          simp only [List.setIfInBounds_toArray, List.set_cons_succ, List.set_cons_zero]
          refine wpAnyH_takeD (i := 10) (v := ?_) 43 rfl (by kernel_rfl) (by kernel_rfl) (by kernel_rfl) (fun _ _ _ h => h) (Or.inl ⟨by rfl, ?_⟩) (by assumption) rfl ?_
          rotate_left
          · intro w' hSw
            obtain ⟨c0, c1, c2, c3, z0, z1, z2, z3⟩ := HX.out w' hSw
            go_simp <;> with_reducible rfl
          simp only [List.setIfInBounds_toArray, List.set_cons_succ, List.set_cons_zero]
          refine wpAnyH_takeD (i := 11) (v := ?_) 44 rfl (by kernel_rfl) (by kernel_rfl) (by kernel_rfl) (fun _ _ _ h => h) (Or.inl ⟨by rfl, ?_⟩) (by assumption) rfl ?_
          rotate_left
          · intro w' hSw
            obtain ⟨c0, c1, c2, c3, z0, z1, z2, z3⟩ := HX.out w' hSw
            go_simp <;> with_reducible rfl
          simp only [List.setIfInBounds_toArray, List.set_cons_succ, List.set_cons_zero]
          refine wpAnyH_takeD (i := 12) (v := ?_) 45 rfl (by kernel_rfl) (by kernel_rfl) (by kernel_rfl) (fun _ _ _ h => h) (Or.inl ⟨by rfl, ?_⟩) (by assumption) rfl ?_
          rotate_left
          · intro w' hSw
            obtain ⟨c0, c1, c2, c3, z0, z1, z2, z3⟩ := HX.out w' hSw
            go_simp <;> with_reducible rfl
          simp only [List.setIfInBounds_toArray, List.set_cons_succ, List.set_cons_zero]
          refine wpAnyH_takeD (i := 13) (v := ?_) 46 rfl (by kernel_rfl) (by kernel_rfl) (by kernel_rfl) (fun _ _ _ h => h) (Or.inl ⟨by rfl, ?_⟩) (by assumption) rfl ?_
          rotate_left
          · intro w' hSw
            obtain ⟨c0, c1, c2, c3, z0, z1, z2, z3⟩ := HX.out w' hSw
            go_simp <;> with_reducible rfl
          simp only [List.setIfInBounds_toArray, List.set_cons_succ, List.set_cons_zero]
          refine wpAnyH_takeD (i := 14) (v := ?_) 47 rfl (by kernel_rfl) (by kernel_rfl) (by kernel_rfl) (fun _ _ _ h => h) (Or.inl ⟨by rfl, ?_⟩) (by assumption) rfl ?_
          rotate_left
          · intro w' hSw
            obtain ⟨c0, c1, c2, c3, z0, z1, z2, z3⟩ := HX.out w' hSw
            go_simp <;> with_reducible rfl
          simp only [List.setIfInBounds_toArray, List.set_cons_succ, List.set_cons_zero]
          refine wpAnyH_takeD (i := 15) (v := ?_) 48 rfl (by kernel_rfl) (by kernel_rfl) (by kernel_rfl) (fun _ _ _ h => h) (Or.inl ⟨by rfl, ?_⟩) (by assumption) rfl ?_
          rotate_left
          · intro w' hSw
            obtain ⟨c0, c1, c2, c3, z0, z1, z2, z3⟩ := HX.out w' hSw
            go_simp <;> with_reducible rfl
          simp only [List.setIfInBounds_toArray, List.set_cons_succ, List.set_cons_zero]
          refine wpAnyH_takeD (i := 16) (v := ?_) 49 rfl (by kernel_rfl) (by kernel_rfl) (by kernel_rfl) (fun _ _ _ h => h) (Or.inl ⟨by rfl, ?_⟩) (by assumption) rfl ?_
          rotate_left
          · intro w' hSw
            obtain ⟨c0, c1, c2, c3, z0, z1, z2, z3⟩ := HX.out w' hSw
            go_simp <;> with_reducible rfl
          simp only [List.setIfInBounds_toArray, List.set_cons_succ, List.set_cons_zero]
          refine wpAnyH_takeD (i := 17) (v := ?_) 50 rfl (by kernel_rfl) (by kernel_rfl) (by kernel_rfl) (fun _ _ _ h => h) (Or.inl ⟨by rfl, ?_⟩) (by assumption) rfl ?_
          rotate_left
          · intro w' hSw
            obtain ⟨c0, c1, c2, c3, z0, z1, z2, z3⟩ := HX.out w' hSw
            go_simp <;> with_reducible rfl
          simp only [List.setIfInBounds_toArray, List.set_cons_succ, List.set_cons_zero]
          refine wpAnyH_takeD (i := 18) (v := ?_) 51 rfl (by kernel_rfl) (by kernel_rfl) (by kernel_rfl) (fun _ _ _ h => h) (Or.inl ⟨by rfl, ?_⟩) (by assumption) rfl ?_
          rotate_left
          · intro w' hSw
            obtain ⟨c0, c1, c2, c3, z0, z1, z2, z3⟩ := HX.out w' hSw
            go_simp <;> with_reducible rfl
          simp only [List.setIfInBounds_toArray, List.set_cons_succ, List.set_cons_zero]
          refine wpAnyH_takeD (i := 19) (v := ?_) 52 rfl (by kernel_rfl) (by kernel_rfl) (by kernel_rfl) (fun _ _ _ h => h) (Or.inl ⟨by rfl, ?_⟩) (by assumption) rfl ?_
          rotate_left
          · intro w' hSw
            obtain ⟨c0, c1, c2, c3, z0, z1, z2, z3⟩ := HX.out w' hSw
            go_simp <;> with_reducible rfl
          simp only [List.setIfInBounds_toArray, List.set_cons_succ, List.set_cons_zero]
          refine wpAnyH_takeD (i := 20) (v := ?_) 53 rfl (by kernel_rfl) (by kernel_rfl) (by kernel_rfl) (fun _ _ _ h => h) (Or.inl ⟨by rfl, ?_⟩) (by assumption) rfl ?_
          rotate_left
          · intro w' hSw
            obtain ⟨c0, c1, c2, c3, z0, z1, z2, z3⟩ := HX.out w' hSw
            go_simp <;> with_reducible rfl
          simp only [List.setIfInBounds_toArray, List.set_cons_succ, List.set_cons_zero]
          refine wpAnyH_takeD (i := 21) (v := ?_) 54 rfl (by kernel_rfl) (by kernel_rfl) (by kernel_rfl) (fun _ _ _ h => h) (Or.inl ⟨by rfl, ?_⟩) (by assumption) rfl ?_
          rotate_left
          · intro w' hSw
            obtain ⟨c0, c1, c2, c3, z0, z1, z2, z3⟩ := HX.out w' hSw
            go_simp <;> with_reducible rfl
          simp only [List.setIfInBounds_toArray, List.set_cons_succ, List.set_cons_zero]
          refine wpAnyH_takeD (i := 22) (v := ?_) 55 rfl (by kernel_rfl) (by kernel_rfl) (by kernel_rfl) (fun _ _ _ h => h) (Or.inl ⟨by rfl, ?_⟩) (by assumption) rfl ?_
          rotate_left
          · intro w' hSw
            obtain ⟨c0, c1, c2, c3, z0, z1, z2, z3⟩ := HX.out w' hSw
            go_simp <;> with_reducible rfl
          simp only [List.setIfInBounds_toArray, List.set_cons_succ, List.set_cons_zero]
          refine wpAnyH_ready (rs := [23]) (by kernel_rfl) (by simp) ?_
          refine AllReadyH.cons (o := _) rfl (fun K hK => ?_) AllReadyH.nil
          go_simp
          go_at_call 42
          refine (length_any y m true _ l1 l2 (by omega) (by omega)).mono ?_
          rintro e w1 ⟨rfl, hb1⟩
          have HB1 := Lib.hid (show Below V.heap.size V w1 from below_undrew hb1)
          clear hb1
          refine hK.out _ _ HB1.out (fun hHeld1 => ?_)
          clear hK K
          refine wpAnyH_takeD (i := 24) (v := ?_) 57 rfl (by kernel_rfl) (by kernel_rfl) (by kernel_rfl) (fun _ _ _ h => h) (Or.inl ⟨by rfl, ?_⟩) (by assumption) rfl ?_
          rotate_left
          · intro w' hSw
            obtain ⟨c0, c1, c2, c3, z0, z1, z2, z3⟩ := HX.out w' hSw
            go_simp <;> with_reducible rfl
          simp only [List.setIfInBounds_toArray, List.set_cons_succ, List.set_cons_zero]
          refine wpAnyH_takeD (i := 25) (v := ?_) 58 rfl (by kernel_rfl) (by kernel_rfl) (by kernel_rfl) (fun _ _ _ h => h) (Or.inl ⟨by rfl, ?_⟩) (by assumption) rfl ?_
          rotate_left
          · intro w' hSw
            obtain ⟨c0, c1, c2, c3, z0, z1, z2, z3⟩ := HX.out w' hSw
            go_simp <;> with_reducible rfl
          simp only [List.setIfInBounds_toArray, List.set_cons_succ, List.set_cons_zero]
          refine wpAnyH_takeD (i := 26) (v := ?_) 4 rfl (by kernel_rfl) (by kernel_rfl) (by kernel_rfl) (fun _ _ _ h => h) (Or.inl ⟨by rfl, ?_⟩) (by assumption) rfl ?_
          rotate_left
          · intro w' hSw
            obtain ⟨c0, c1, c2, c3, z0, z1, z2, z3⟩ := HX.out w' hSw
            go_simp <;> with_reducible rfl
          simp only [List.setIfInBounds_toArray, List.set_cons_succ, List.set_cons_zero]
          refine wpAnyH_done (by kernel_rfl) ?_ _
          go_wp2
          go_ret
          exact ⟨by rw [HR.out, xe, xd]; rfl, hB1.trans (HB1.out.mono hB1.size)⟩
        | false =>
          clear x1 x2 x3 x4
          refine wp_region_held_drew (S := fun w' => Below V.heap.size V w') (by kernel_rfl) (below_drew (Below.refl _ _)) (fun hHeld => ?_)
          refine wpAnyH_takeD (i := 0) (v := ?_) 33 rfl (by kernel_rfl) (by kernel_rfl) (by kernel_rfl) (fun _ _ _ h => h) (Or.inl ⟨by rfl, ?_⟩) (by assumption) rfl ?_
          rotate_left
          · intro w' hSw
            obtain ⟨c0, c1, c2, c3, z0, z1, z2, z3⟩ := HX.out w' hSw
            go_simp <;> with_reducible rfl
          simp only [List.setIfInBounds_toArray, List.set_cons_succ, List.set_cons_zero]
          refine wpAnyH_takeD (i := 1) (v := ?_) 34 rfl (by kernel_rfl) (by kernel_rfl) (by kernel_rfl) (fun _ _ _ h => h) (Or.inl ⟨by rfl, ?_⟩) (by assumption) rfl ?_
          rotate_left
          · intro w' hSw
            obtain ⟨c0, c1, c2, c3, z0, z1, z2, z3⟩ := HX.out w' hSw
            go_simp <;> with_reducible rfl
          simp only [List.setIfInBounds_toArray, List.set_cons_succ, List.set_cons_zero]
          refine wpAnyH_takeD (i := 2) (v := ?_) 35 rfl (by kernel_rfl) (by kernel_rfl) (by kernel_rfl) (fun _ _ _ h => h) (Or.inl ⟨by rfl, ?_⟩) (by assumption) rfl ?_
          rotate_left
          · intro w' hSw
            obtain ⟨c0, c1, c2, c3, z0, z1, z2, z3⟩ := HX.out w' hSw
            go_simp <;> with_reducible rfl
          simp only [List.setIfInBounds_toArray, List.set_cons_succ, List.set_cons_zero]
          refine wpAnyH_takeD (i := 3) (v := ?_) 36 rfl (by kernel_rfl) (by kernel_rfl) (by kernel_rfl) (fun _ _ _ h => h) (Or.inl ⟨by rfl, ?_⟩) (by assumption) rfl ?_
          rotate_left
          · intro w' hSw
            obtain ⟨c0, c1, c2, c3, z0, z1, z2, z3⟩ := HX.out w' hSw
            go_simp <;> with_reducible rfl
          simp only [List.setIfInBounds_toArray, List.set_cons_succ, List.set_cons_zero]
          refine wpAnyH_takeD (i := 4) (v := ?_) 37 rfl (by kernel_rfl) (by kernel_rfl) (by kernel_rfl) (fun _ _ _ h => h) (Or.inl ⟨by rfl, ?_⟩) (by assumption) rfl ?_
          rotate_left
          · intro w' hSw
            obtain ⟨c0, c1, c2, c3, z0, z1, z2, z3⟩ := HX.out w' hSw
            go_simp <;> with_reducible rfl
          simp only [List.setIfInBounds_toArray, List.set_cons_succ, List.set_cons_zero]
          refine wpAnyH_takeD (i := 5) (v := ?_) 38 rfl (by kernel_rfl) (by kernel_rfl) (by kernel_rfl) (fun _ _ _ h => h) (Or.inl ⟨by rfl, ?_⟩) (by assumption) rfl ?_
          rotate_left
          · intro w' hSw
            obtain ⟨c0, c1, c2, c3, z0, z1, z2, z3⟩ := HX.out w' hSw
            go_simp <;> with_reducible rfl
          simp only [List.setIfInBounds_toArray, List.set_cons_succ, List.set_cons_zero]
          refine wpAnyH_takeD (i := 6) (v := ?_) 39 rfl (by kernel_rfl) (by kernel_rfl) (by kernel_rfl) (fun _ _ _ h => h) (Or.inl ⟨by rfl, ?_⟩) (by assumption) rfl ?_
          rotate_left
          · intro w' hSw
            obtain ⟨c0, c1, c2, c3, z0, z1, z2, z3⟩ := HX.out w' hSw
            go_simp <;> with_reducible rfl
          simp only [List.setIfInBounds_toArray, List.set_cons_succ, List.set_cons_zero]
          refine wpAnyH_takeD (i := 7) (v := ?_) 40 rfl (by kernel_rfl) (by kernel_rfl) (by kernel_rfl) (fun _ _ _ h => h) (Or.inl ⟨by rfl, ?_⟩) (by assumption) rfl ?_
          rotate_left
          · intro w' hSw
            obtain ⟨c0, c1, c2, c3, z0, z1, z2, z3⟩ := HX.out w' hSw
            go_simp <;> with_reducible rfl
          simp only [List.setIfInBounds_toArray, List.set_cons_succ, List.set_cons_zero]
          refine wpAnyH_takeD (i := 8) (v := ?_) 41 rfl (by kernel_rfl) (by kernel_rfl) (by kernel_rfl) (fun _ _ _ h => h) (Or.inl ⟨by rfl, ?_⟩) (by assumption) rfl ?_
          rotate_left
          · intro w' hSw
            obtain ⟨c0, c1, c2, c3, z0, z1, z2, z3⟩ := HX.out w' hSw
            go_simp <;> with_reducible rfl
          simp only [List.setIfInBounds_toArray, List.set_cons_succ, List.set_cons_zero]
          refine wpAnyH_takeD (i := 9) (v := ?_) 42 rfl (by kernel_rfl) (by kernel_rfl) (by kernel_rfl) (fun _ _ _ h => h) (Or.inl ⟨by rfl, ?_⟩) (by assumption) rfl ?_
          rotate_left
          · intro w' hSw
            obtain ⟨c0, c1, c2, c3, z0, z1, z2, z3⟩ := HX.out w' hSw
            go_simp <;> with_reducible rfl
          simp only [List.setIfInBounds_toArray, List.set_cons_succ, List.set_cons_zero]
          refine wpAnyH_takeD (i := 10) (v := ?_) 43 rfl (by kernel_rfl) (by kernel_rfl) (by kernel_rfl) (fun _ _ _ h => h) (Or.inl ⟨by rfl, ?_⟩) (by assumption) rfl ?_
          rotate_left
          · intro w' hSw
            obtain ⟨c0, c1, c2, c3, z0, z1, z2, z3⟩ := HX.out w' hSw
            go_simp <;> with_reducible rfl
          simp only [List.setIfInBounds_toArray, List.set_cons_succ, List.set_cons_zero]
          refine wpAnyH_takeD (i := 11) (v := ?_) 44 rfl (by kernel_rfl) (by kernel_rfl) (by kernel_rfl) (fun _ _ _ h => h) (Or.inl ⟨by rfl, ?_⟩) (by assumption) rfl ?_
          rotate_left
          · intro w' hSw
            obtain ⟨c0, c1, c2, c3, z0, z1, z2, z3⟩ := HX.out w' hSw
            go_simp <;> with_reducible rfl
          simp only [List.setIfInBounds_toArray, List.set_cons_succ, List.set_cons_zero]
          refine wpAnyH_takeD (i := 12) (v := ?_) 45 rfl (by kernel_rfl) (by kernel_rfl) (by kernel_rfl) (fun _ _ _ h => h) (Or.inl ⟨by rfl, ?_⟩) (by assumption) rfl ?_
          rotate_left
          · intro w' hSw
            obtain ⟨c0, c1, c2, c3, z0, z1, z2, z3⟩ := HX.out w' hSw
            go_simp <;> with_reducible rfl
          simp only [List.setIfInBounds_toArray, List.set_cons_succ, List.set_cons_zero]
          refine wpAnyH_takeD (i := 13) (v := ?_) 46 rfl (by kernel_rfl) (by kernel_rfl) (by kernel_rfl) (fun _ _ _ h => h) (Or.inl ⟨by rfl, ?_⟩) (by assumption) rfl ?_
          rotate_left
          · intro w' hSw
            obtain ⟨c0, c1, c2, c3, z0, z1, z2, z3⟩ := HX.out w' hSw
            go_simp <;> with_reducible rfl
          simp only [List.setIfInBounds_toArray, List.set_cons_succ, List.set_cons_zero]
          refine wpAnyH_takeD (i := 14) (v := ?_) 47 rfl (by kernel_rfl) (by kernel_rfl) (by kernel_rfl) (fun _ _ _ h => h) (Or.inl ⟨by rfl, ?_⟩) (by assumption) rfl ?_
          rotate_left
          · intro w' hSw
            obtain ⟨c0, c1, c2, c3, z0, z1, z2, z3⟩ := HX.out w' hSw
            go_simp <;> with_reducible rfl
          simp only [List.setIfInBounds_toArray, List.set_cons_succ, List.set_cons_zero]
          refine wpAnyH_takeD (i := 15) (v := ?_) 48 rfl (by kernel_rfl) (by kernel_rfl) (by kernel_rfl) (fun _ _ _ h => h) (Or.inl ⟨by rfl, ?_⟩) (by assumption) rfl ?_
          rotate_left
          · intro w' hSw
            obtain ⟨c0, c1, c2, c3, z0, z1, z2, z3⟩ := HX.out w' hSw
            go_simp <;> with_reducible rfl
          simp only [List.setIfInBounds_toArray, List.set_cons_succ, List.set_cons_zero]
          refine wpAnyH_takeD (i := 16) 49 rfl (by kernel_rfl) (by kernel_rfl) (by kernel_rfl) (fun _ _ _ h => h) (Or.inr ⟨by kernel_rfl, rfl⟩) (by assumption) rfl ?_
          simp only [List.setIfInBounds_toArray, List.set_cons_succ, List.set_cons_zero]
          refine wpAnyH_takeD (i := 17) 50 rfl (by kernel_rfl) (by kernel_rfl) (by kernel_rfl) (fun _ _ _ h => h) (Or.inr ⟨by kernel_rfl, rfl⟩) (by assumption) rfl ?_
          simp only [List.setIfInBounds_toArray, List.set_cons_succ, List.set_cons_zero]
          refine wpAnyH_takeD (i := 18) 51 rfl (by kernel_rfl) (by kernel_rfl) (by kernel_rfl) (fun _ _ _ h => h) (Or.inr ⟨by kernel_rfl, rfl⟩) (by assumption) rfl ?_
          simp only [List.setIfInBounds_toArray, List.set_cons_succ, List.set_cons_zero]
          refine wpAnyH_takeD (i := 19) 52 rfl (by kernel_rfl) (by kernel_rfl) (by kernel_rfl) (fun _ _ _ h => h) (Or.inr ⟨by kernel_rfl, rfl⟩) (by assumption) rfl ?_
          simp only [List.setIfInBounds_toArray, List.set_cons_succ, List.set_cons_zero]
          refine wpAnyH_takeD (i := 20) 53 rfl (by kernel_rfl) (by kernel_rfl) (by kernel_rfl) (fun _ _ _ h => h) (Or.inr ⟨by kernel_rfl, rfl⟩) (by assumption) rfl ?_
          simp only [List.setIfInBounds_toArray, List.set_cons_succ, List.set_cons_zero]
          refine wpAnyH_takeD (i := 21) 54 rfl (by kernel_rfl) (by kernel_rfl) (by kernel_rfl) (fun _ _ _ h => h) (Or.inr ⟨by kernel_rfl, rfl⟩) (by assumption) rfl ?_
          simp only [List.setIfInBounds_toArray, List.set_cons_succ, List.set_cons_zero]
          refine wpAnyH_takeD (i := 22) 55 rfl (by kernel_rfl) (by kernel_rfl) (by kernel_rfl) (fun _ _ _ h => h) (Or.inr ⟨by kernel_rfl, rfl⟩) (by assumption) rfl ?_
          simp only [List.setIfInBounds_toArray, List.set_cons_succ, List.set_cons_zero]
          refine wpAnyH_takeD (i := 23) 56 rfl (by kernel_rfl) (by kernel_rfl) (by kernel_rfl) (fun _ _ _ h => h) (Or.inr ⟨by kernel_rfl, rfl⟩) (by assumption) rfl ?_
          simp only [List.setIfInBounds_toArray, List.set_cons_succ, List.set_cons_zero]
          refine wpAnyH_takeD (i := 24) 57 rfl (by kernel_rfl) (by kernel_rfl) (by kernel_rfl) (fun _ _ _ h => h) (Or.inr ⟨by kernel_rfl, rfl⟩) (by assumption) rfl ?_
          simp only [List.setIfInBounds_toArray, List.set_cons_succ, List.set_cons_zero]
          refine wpAnyH_takeD (i := 25) (v := ?_) 58 rfl (by kernel_rfl) (by kernel_rfl) (by kernel_rfl) (fun _ _ _ h => h) (Or.inl ⟨by rfl, ?_⟩) (by assumption) rfl ?_
          rotate_left
          · intro w' hSw
            obtain ⟨c0, c1, c2, c3, z0, z1, z2, z3⟩ := HX.out w' hSw
            go_simp <;> with_reducible rfl
          simp only [List.setIfInBounds_toArray, List.set_cons_succ, List.set_cons_zero]
          refine wpAnyH_takeD (i := 26) (v := ?_) 4 rfl (by kernel_rfl) (by kernel_rfl) (by kernel_rfl) (fun _ _ _ h => h) (Or.inl ⟨by rfl, ?_⟩) (by assumption) rfl ?_
          rotate_left
          · intro w' hSw
            obtain ⟨c0, c1, c2, c3, z0, z1, z2, z3⟩ := HX.out w' hSw
            go_simp <;> with_reducible rfl
          simp only [List.setIfInBounds_toArray, List.set_cons_succ, List.set_cons_zero]
          refine wpAnyH_done (by kernel_rfl) ?_ _
          go_wp2
          go_ret
          exact ⟨by rw [HR.out, xe, xd]; first | rfl | (simp; done) | (cases decide (1 ≤ D) <;> rfl), below_drew hB1⟩
end Go.Proofs.YthpjeclhignciaaDoor
