/- Walks of the package ledger: ratios that are not negative, interest. Conditions: those stated. -/
import Derived.Test.YthpjeclhignciaaDoorT11
import Derived.BigGuardPart
namespace Go.Proofs.YthpjeclhignciaaDoor
open Go Go.RowKit Go.Shelf
attribute [local go_sem] Oper.semAt_some rrV

theorem whole_any (n : Int) (w : World) : Calls Tryd.prog 20 #[.int .i64 n] w fun e w' => e = .returned (.agg #[.int .i64 n, .int .i64 1]) ∧ Below w.heap.size w w' := by
  go_enter Tryd.func20, Tryd.ntmps20
  go_wp2
  exact bodyPost_ret (v := .agg #[.int .i64 n, .int .i64 1]) (by simp [results, Tryd.results20, go_sem]) rfl ⟨rfl, by first | exact below_alloc' _ _ | exact (((below_alloc' w _).setCell (by simp) _).setCell (by simp) _)⟩

def nnR (r : Int × Int) : Bool := isR r.1 r.2 && !decide (r.1 < 0)
def nnB (l : List (Int × Int)) : Bool := l.all nnR
set_option maxRecDepth 100000 in
set_option maxHeartbeats 2000000 in
theorem notNegative_any (v : Value) (l : List (Int × Int)) (w : World) (hv : Sl w 2 v (rsV l)) (hbd : BdL l) :
    Calls Tryd.prog 18 #[v] w fun e w' => e = .returned (.bool (nnB l)) ∧ Below w.heap.size w w' := by
  obtain ⟨A, n, c, rfl, hn, hnc, hcm, hcl⟩ := hv.open2 (by decide)
  rw [rsV_length] at hn
  obtain rfl : n = l.length := by omega
  have HC := Lib.hid hcl
  have HBD := Lib.hid hbd
  clear hcl hv hbd hn
  go_enter Tryd.func18, Tryd.ntmps18
  go_wp2
  go_loopw [7] (fun ti wr => ∃ (k : Nat), ti = .int .i64 k ∧ k ≤ l.length ∧ Hid (nnB (l.take k) = true) ∧ Below w.heap.size w wr) (fun ti _ => l.length - (intOf ti).toNat)
  case atStart => exact ⟨0, rfl, by omega, rfl, Below.refl _ _⟩
  case round =>
    obtain ⟨k, rfl, hk, HA, hB⟩ := hrel
    by_cases hlt : k < l.length
    · obtain ⟨b, o, e, _, hce⟩ := HC.out (by omega)
      subst e
      obtain ⟨g0, g1⟩ := rsV_get hlt
      have e0 := below_cell hB (hce _ _ g0)
      have e1 := below_cell hB (hce _ _ g1)
      rw [← Nat.add_assoc] at e1
      obtain ⟨⟨bN1, bN2⟩, bD1, bD2⟩ := HBD.out l[k] (List.getElem_mem _)
      have HT := Lib.hid (show nnB (l.take (k + 1)) = (nnB (l.take k) && nnR l[k]) by unfold nnB; rw [List.take_succ_eq_append_getElem hlt, List.all_append]; simp)
      have HX := Lib.hid (show nnR l[k] = false → nnB l = false from fun h => by
        rw [← Bool.not_eq_true]
        unfold nnB
        rw [List.all_eq_true]
        intro h'
        rw [h' _ (List.getElem_mem hlt)] at h
        cases h)
      clear hce g0 g1
      generalize l[k] = r at *
      obtain ⟨N, D⟩ := r
      simp only at e0 e1 bN1 bN2 bD1 bD2
      have hBox := Cel.new wr 27 #[.int .i64 N, .int .i64 D]
      have hB1 := hB.alloc hB.size (.cells #[.int .i64 N, .int .i64 D] 27)
      have hir := isRatio_any N D (wr.alloc (.cells #[.int .i64 N, .int .i64 D] 27)) bN1 bN2 bD1 bD2
      cases hi : isR N D with
      | false =>
        rw [hi] at hir
        have HR := Lib.hid (HX.out (by simp [nnR, hi]))
        have HIR := Lib.hid hir
        clear hir hi HX HT hB
        go_wp2_with (go_at_call 36; refine HIR.out.mono ?_; rintro e w2 ⟨rfl, hb2⟩; have T := hBox.below hBox.lt hb2; have q0 := T.cell 0 _ rfl)
        go_ret
        exact ⟨by rw [HR.out]; rfl, hB1.trans (hb2.mono hB1.size)⟩
      | true =>
        rw [hi] at hir
        have HIR := Lib.hid hir
        cases hn : decide (N < 0) with
        | true =>
          have HR := Lib.hid (HX.out (by simp only [nnR, hi, hn]; rfl))
          clear hir hi HX HT hB
          go_wp2_with (go_at_call 36; refine HIR.out.mono ?_; rintro e w2 ⟨rfl, hb2⟩; have T := hBox.below hBox.lt hb2; have q0 := T.cell 0 _ rfl)
          go_ret
          exact ⟨by rw [HR.out]; rfl, hB1.trans (hb2.mono hB1.size)⟩
        | false =>
          have HA2 := Lib.hid (show nnB (l.take (k + 1)) = true by rw [HT.out, HA.out]; simp only [nnR, hi, hn]; rfl)
          clear hir hi HX HT hB
          go_wp2_with (go_at_call 36; refine HIR.out.mono ?_; rintro e w2 ⟨rfl, hb2⟩; have T := hBox.below hBox.lt hb2; have q0 := T.cell 0 _ rfl)
          go_roundw
          case rel => exact ⟨k + 1, by go_num, by omega, HA2, hB1.trans (hb2.mono hB1.size)⟩
          case measure => simp [intOf]; omega
    · obtain rfl : k = l.length := by omega
      have HR := Lib.hid (show nnB l = true by have := HA.out; rwa [List.take_length] at this)
      go_wp2
      go_ret
      exact ⟨by rw [HR.out]; rfl, hB⟩

def posB (N D : Int) : Bool := nnR (N, D) && decide (0 < N)
def shaB (N D : Int) : Bool := nnR (N, D) && decide (N ≤ D)
theorem bdl1 {N D : Int} (hN : Bd N) (hD : Bd D) : BdL [(N, D)] := fun r h => by simp at h; subst h; exact ⟨hN, hD⟩
theorem slR1 (w : World) (N D : Int) (B : Nat) (hB : w.heap.size = B) : Sl (w.alloc (.cells #[.int .i64 N, .int .i64 D] 27)) 2 (.slice (some ⟨B, 0, none⟩) 1 1) (rsV [(N, D)]) := by
  subst hB
  exact Sl.new (s := 2) w 27 1 1 #[.int .i64 N, .int .i64 D] rfl (by omega) (by omega)
set_option maxRecDepth 100000 in
set_option maxHeartbeats 1000000 in
theorem positive_any (N D : Int) (w : World) (hN : Bd N) (hD : Bd D) :
    Calls Tryd.prog 44 #[.agg #[.int .i64 N, .int .i64 D]] w fun e w' => e = .returned (.bool (posB N D)) ∧ Below w.heap.size w w' := by
  have hB0 : Below w.heap.size w ((w.alloc (.cells #[.int .i64 N, .int .i64 D] 27)).alloc (.cells #[.int .i64 N, .int .i64 D] 27)) := (below_alloc' _ _).alloc (by simp) _
  have Y0 := (Cel.new w 27 #[.int .i64 N, .int .i64 D]).alloc (.cells #[.int .i64 N, .int .i64 D] 27)
  have hk := notNegative_any _ [(N, D)] _ (slR1 (w.alloc (.cells #[.int .i64 N, .int .i64 D] 27)) N D (w.heap.size + 1) (by simp)) (bdl1 hN hD)
  have e : nnB [(N, D)] = nnR (N, D) := by simp [nnB]
  rw [e] at hk
  have HP := Lib.hid (show posB N D = (nnR (N, D) && decide (0 < N)) from rfl)
  have HK := Lib.hid hk
  clear hk e
  cases hn : nnR (N, D) with
  | true =>
    cases hp : decide (0 < N) with
    | true =>
      rw [hn, hp] at HP
      rw [hn] at HK
      clear hn
      go_enter Tryd.func44, Tryd.ntmps44
      go_wp2_with (go_at_call 18; refine HK.out.mono ?_; rintro e w2 ⟨rfl, hb2⟩; have T := Y0.below Y0.lt hb2; have q0 := T.cell 0 _ rfl)
      go_ret
      exact ⟨by rw [HP.out]; rfl, below_then hB0 hb2⟩
    | false =>
      rw [hn, hp] at HP
      rw [hn] at HK
      clear hn
      go_enter Tryd.func44, Tryd.ntmps44
      go_wp2_with (go_at_call 18; refine HK.out.mono ?_; rintro e w2 ⟨rfl, hb2⟩; have T := Y0.below Y0.lt hb2; have q0 := T.cell 0 _ rfl)
      go_ret
      exact ⟨by rw [HP.out]; rfl, below_then hB0 hb2⟩
  | false =>
    rw [hn] at HP HK
    clear hn
    go_enter Tryd.func44, Tryd.ntmps44
    go_wp2_with (go_at_call 18; refine HK.out.mono ?_; rintro e w2 ⟨rfl, hb2⟩; have T := Y0.below Y0.lt hb2; have q0 := T.cell 0 _ rfl)
    go_ret
    exact ⟨by rw [HP.out]; rfl, below_then hB0 hb2⟩
set_option maxRecDepth 100000 in
set_option maxHeartbeats 1000000 in
theorem share_any (N D : Int) (w : World) (hN : Bd N) (hD : Bd D) :
    Calls Tryd.prog 45 #[.agg #[.int .i64 N, .int .i64 D]] w fun e w' => e = .returned (.bool (shaB N D)) ∧ Below w.heap.size w w' := by
  have hB0 : Below w.heap.size w ((w.alloc (.cells #[.int .i64 N, .int .i64 D] 27)).alloc (.cells #[.int .i64 N, .int .i64 D] 27)) := (below_alloc' _ _).alloc (by simp) _
  have Y0 := (Cel.new w 27 #[.int .i64 N, .int .i64 D]).alloc (.cells #[.int .i64 N, .int .i64 D] 27)
  have hk := notNegative_any _ [(N, D)] _ (slR1 (w.alloc (.cells #[.int .i64 N, .int .i64 D] 27)) N D (w.heap.size + 1) (by simp)) (bdl1 hN hD)
  have e : nnB [(N, D)] = nnR (N, D) := by simp [nnB]
  rw [e] at hk
  have HP := Lib.hid (show shaB N D = (nnR (N, D) && decide (N ≤ D)) from rfl)
  have HK := Lib.hid hk
  clear hk e
  cases hn : nnR (N, D) with
  | true =>
    cases hp : decide (N ≤ D) with
    | true =>
      rw [hn, hp] at HP
      rw [hn] at HK
      clear hn
      go_enter Tryd.func45, Tryd.ntmps45
      go_wp2_with (go_at_call 18; refine HK.out.mono ?_; rintro e w2 ⟨rfl, hb2⟩; have T := Y0.below Y0.lt hb2; have q0 := T.cell 0 _ rfl; have q1 := T.cell 1 _ rfl)
      go_ret
      exact ⟨by rw [HP.out]; rfl, below_then hB0 hb2⟩
    | false =>
      rw [hn, hp] at HP
      rw [hn] at HK
      clear hn
      go_enter Tryd.func45, Tryd.ntmps45
      go_wp2_with (go_at_call 18; refine HK.out.mono ?_; rintro e w2 ⟨rfl, hb2⟩; have T := Y0.below Y0.lt hb2; have q0 := T.cell 0 _ rfl; have q1 := T.cell 1 _ rfl)
      go_ret
      exact ⟨by rw [HP.out]; rfl, below_then hB0 hb2⟩
  | false =>
    rw [hn] at HP HK
    clear hn
    go_enter Tryd.func45, Tryd.ntmps45
    go_wp2_with (go_at_call 18; refine HK.out.mono ?_; rintro e w2 ⟨rfl, hb2⟩; have T := Y0.below Y0.lt hb2; have q0 := T.cell 0 _ rfl; have q1 := T.cell 1 _ rfl)
    go_ret
    exact ⟨by rw [HP.out]; rfl, below_then hB0 hb2⟩
end Go.Proofs.YthpjeclhignciaaDoor
