/- Walks of the package ledger: loan, checkLoan. Conditions: those stated; no payments. -/
import Derived.Test.YthpjeclhignciaaDoorT14
namespace Go.Proofs.YthpjeclhignciaaDoor
open Go Go.RowKit Go.Shelf
attribute [local go_sem] Oper.semAt_some rrV


set_option maxRecDepth 100000 in
set_option maxHeartbeats 2000000 in
theorem loan_yes (x y : Value) (ks : List ByteArray) (ys : List Yr) (PN PD RN RD FY FM FD : Int) (FS : Bool) (k : Nat) (m : Mo) (hi : InC ks ys ⟨FY, FM, FS, FD⟩ k m) (w : World) (hv : CalW w (.agg #[x, y]) ks ys)
    (bPN : Bd PN) (bPD : Bd PD) (bRN : Bd RN) (bRD : Bd RD) :
    Calls Tryd.prog 29 #[.agg #[x, y], .agg #[.int .i64 PN, .int .i64 PD, .int .i64 RN, .int .i64 RD, .int .i64 FY, .int .i64 FM, .bool FS, .int .i64 FD], .slice none 0 0] w fun e w' => e = .returned (.bool (posB PN PD && shaB RN RD)) ∧ Below w.heap.size w w' := by
  have hd := fun w' (h : CalW w' (.agg #[x, y]) ks ys) => day_yes x y ks ys ⟨FY, FM, FS, FD⟩ k m w' h hi
  obtain ⟨Ak, nk, ck, Ay, ny, cy, e, _⟩ := hv.cal
  injection e with e
  injection e with e
  injection e with e1 e
  injection e with e2 e
  subst e1
  subst e2
  have hB0 : Below w.heap.size w ((w.alloc (.cells #[.slice Ak nk ck, .slice Ay ny cy] 54)).alloc (.cells #[.int .i64 PN, .int .i64 PD, .int .i64 RN, .int .i64 RD, .int .i64 FY, .int .i64 FM, .bool FS, .int .i64 FD] 31)) := (below_alloc' _ _).alloc (by simp) _
  have Y1 := Cel.new (w.alloc (.cells #[.slice Ak nk ck, .slice Ay ny cy] 54)) 31 #[.int .i64 PN, .int .i64 PD, .int .i64 RN, .int .i64 RD, .int .i64 FY, .int .i64 FM, .bool FS, .int .i64 FD]
  simp only [World.size_alloc] at Y1
  have HD := Lib.hid (hd _ (hv.below hB0))
  have HP := Lib.hid (fun w' => positive_any PN PD w' bPN bPD)
  have HS := Lib.hid (fun w' => share_any RN RD w' bRN bRD)
  have hd0 : (dayOf m ⟨FY, FM, FS, FD⟩ == 0) = false := by
    have := hi.bd
    unfold dayOf
    simp only at *
    exact beq_eq_false_iff_ne.2 (by omega)
  simp only [dtA] at HD
  generalize dayOf m ⟨FY, FM, FS, FD⟩ = dn at *
  clear hd hv hi
  cases hp : posB PN PD with
  | false =>
    rw [hp] at HP
    clear hp
    go_enter Tryd.func29, Tryd.ntmps29
    go_wp2_with (first
      | (go_at_call 15; refine HD.out.mono ?_; rintro e w1 ⟨rfl, hb⟩; have T1 := Y1.below Y1.lt hb; have q0 := T1.cell 0 _ rfl; have q1 := T1.cell 1 _ rfl; have q2 := T1.cell 2 _ rfl; have q3 := T1.cell 3 _ rfl)
      | (go_at_call 44; refine (HP.out _).mono ?_; rintro e w2 ⟨rfl, hb2⟩; have T2 := T1.below T1.lt hb2; have q2 := T2.cell 2 _ rfl; have q3 := T2.cell 3 _ rfl)
      | (go_at_call 45; refine (HS.out _).mono ?_; rintro e w3 ⟨rfl, hb3⟩))
    go_ret
    exact ⟨rfl, below_then (below_then hB0 hb) hb2⟩
  | true =>
    rw [hp] at HP
    clear hp
    cases hs : shaB RN RD with
    | false =>
      rw [hs] at HS
      clear hs
      go_enter Tryd.func29, Tryd.ntmps29
      go_wp2_with (first
        | (go_at_call 15; refine HD.out.mono ?_; rintro e w1 ⟨rfl, hb⟩; have T1 := Y1.below Y1.lt hb; have q0 := T1.cell 0 _ rfl; have q1 := T1.cell 1 _ rfl; have q2 := T1.cell 2 _ rfl; have q3 := T1.cell 3 _ rfl)
        | (go_at_call 44; refine (HP.out _).mono ?_; rintro e w2 ⟨rfl, hb2⟩; have T2 := T1.below T1.lt hb2; have q2 := T2.cell 2 _ rfl; have q3 := T2.cell 3 _ rfl)
        | (go_at_call 45; refine (HS.out _).mono ?_; rintro e w3 ⟨rfl, hb3⟩))
      go_ret
      exact ⟨rfl, below_then (below_then (below_then hB0 hb) hb2) hb3⟩
    | true =>
      rw [hs] at HS
      clear hs
      go_enter Tryd.func29, Tryd.ntmps29
      go_wp2_with (first
        | (go_at_call 15; refine HD.out.mono ?_; rintro e w1 ⟨rfl, hb⟩; have T1 := Y1.below Y1.lt hb; have q0 := T1.cell 0 _ rfl; have q1 := T1.cell 1 _ rfl; have q2 := T1.cell 2 _ rfl; have q3 := T1.cell 3 _ rfl)
        | (go_at_call 44; refine (HP.out _).mono ?_; rintro e w2 ⟨rfl, hb2⟩; have T2 := T1.below T1.lt hb2; have q2 := T2.cell 2 _ rfl; have q3 := T2.cell 3 _ rfl)
        | (go_at_call 45; refine (HS.out _).mono ?_; rintro e w3 ⟨rfl, hb3⟩))
      have hB3 := below_then (below_then (below_then hB0 hb) hb2) hb3
      go_loopw [31] (fun ti wr => ti = .int .i64 0 ∧ wr = w3) (fun _ _ => 0)
      case atStart => exact ⟨rfl, rfl⟩
      case round =>
        obtain ⟨rfl, rfl⟩ := hrel
        go_wp2
        go_ret
        exact ⟨rfl, hB3⟩

set_option maxRecDepth 100000 in
set_option maxHeartbeats 2000000 in
theorem loan_no (x y : Value) (ks : List ByteArray) (ys : List Yr) (PN PD RN RD FY FM FD : Int) (FS : Bool) (hi : chF ks ys [⟨FY, FM, FS, FD⟩] ≠ 0) (w : World) (hv : CalW w (.agg #[x, y]) ks ys)
    (bPN : Bd PN) (bPD : Bd PD) (bRN : Bd RN) (bRD : Bd RD) :
    Calls Tryd.prog 29 #[.agg #[x, y], .agg #[.int .i64 PN, .int .i64 PD, .int .i64 RN, .int .i64 RD, .int .i64 FY, .int .i64 FM, .bool FS, .int .i64 FD], .slice none 0 0] w fun e w' => e = .returned (.bool false) ∧ Below w.heap.size w w' := by
  have hd := fun w' (h : CalW w' (.agg #[x, y]) ks ys) => day_no x y ks ys ⟨FY, FM, FS, FD⟩ w' h hi
  obtain ⟨Ak, nk, ck, Ay, ny, cy, e, _⟩ := hv.cal
  injection e with e
  injection e with e
  injection e with e1 e
  injection e with e2 e
  subst e1
  subst e2
  have hB0 : Below w.heap.size w ((w.alloc (.cells #[.slice Ak nk ck, .slice Ay ny cy] 54)).alloc (.cells #[.int .i64 PN, .int .i64 PD, .int .i64 RN, .int .i64 RD, .int .i64 FY, .int .i64 FM, .bool FS, .int .i64 FD] 31)) := (below_alloc' _ _).alloc (by simp) _
  have Y1 := Cel.new (w.alloc (.cells #[.slice Ak nk ck, .slice Ay ny cy] 54)) 31 #[.int .i64 PN, .int .i64 PD, .int .i64 RN, .int .i64 RD, .int .i64 FY, .int .i64 FM, .bool FS, .int .i64 FD]
  simp only [World.size_alloc] at Y1
  have HD := Lib.hid (hd _ (hv.below hB0))
  have HP := Lib.hid (fun w' => positive_any PN PD w' bPN bPD)
  have HS := Lib.hid (fun w' => share_any RN RD w' bRN bRD)
  simp only [dtA] at HD
  clear hd hv hi
  cases hp : posB PN PD with
  | false =>
    rw [hp] at HP
    clear hp
    go_enter Tryd.func29, Tryd.ntmps29
    go_wp2_with (first
      | (go_at_call 15; refine HD.out.mono ?_; rintro e w1 ⟨rfl, hb⟩; have T1 := Y1.below Y1.lt hb; have q0 := T1.cell 0 _ rfl; have q1 := T1.cell 1 _ rfl; have q2 := T1.cell 2 _ rfl; have q3 := T1.cell 3 _ rfl)
      | (go_at_call 44; refine (HP.out _).mono ?_; rintro e w2 ⟨rfl, hb2⟩; have T2 := T1.below T1.lt hb2; have q2 := T2.cell 2 _ rfl; have q3 := T2.cell 3 _ rfl)
      | (go_at_call 45; refine (HS.out _).mono ?_; rintro e w3 ⟨rfl, hb3⟩))
    go_ret
    exact ⟨rfl, below_then (below_then hB0 hb) hb2⟩
  | true =>
    rw [hp] at HP
    clear hp
    cases hs : shaB RN RD with
    | false =>
      rw [hs] at HS
      clear hs
      go_enter Tryd.func29, Tryd.ntmps29
      go_wp2_with (first
        | (go_at_call 15; refine HD.out.mono ?_; rintro e w1 ⟨rfl, hb⟩; have T1 := Y1.below Y1.lt hb; have q0 := T1.cell 0 _ rfl; have q1 := T1.cell 1 _ rfl; have q2 := T1.cell 2 _ rfl; have q3 := T1.cell 3 _ rfl)
        | (go_at_call 44; refine (HP.out _).mono ?_; rintro e w2 ⟨rfl, hb2⟩; have T2 := T1.below T1.lt hb2; have q2 := T2.cell 2 _ rfl; have q3 := T2.cell 3 _ rfl)
        | (go_at_call 45; refine (HS.out _).mono ?_; rintro e w3 ⟨rfl, hb3⟩))
      go_ret
      exact ⟨rfl, below_then (below_then (below_then hB0 hb) hb2) hb3⟩
    | true =>
      rw [hs] at HS
      clear hs
      go_enter Tryd.func29, Tryd.ntmps29
      go_wp2_with (first
        | (go_at_call 15; refine HD.out.mono ?_; rintro e w1 ⟨rfl, hb⟩; have T1 := Y1.below Y1.lt hb; have q0 := T1.cell 0 _ rfl; have q1 := T1.cell 1 _ rfl; have q2 := T1.cell 2 _ rfl; have q3 := T1.cell 3 _ rfl)
        | (go_at_call 44; refine (HP.out _).mono ?_; rintro e w2 ⟨rfl, hb2⟩; have T2 := T1.below T1.lt hb2; have q2 := T2.cell 2 _ rfl; have q3 := T2.cell 3 _ rfl)
        | (go_at_call 45; refine (HS.out _).mono ?_; rintro e w3 ⟨rfl, hb3⟩))
      go_ret
      exact ⟨rfl, below_then (below_then (below_then hB0 hb) hb2) hb3⟩

set_option maxRecDepth 100000 in
set_option maxHeartbeats 1000000 in
theorem checkLoan_yes (x y : Value) (ks : List ByteArray) (ys : List Yr) (PN PD RN RD FY FM FD : Int) (FS : Bool) (k : Nat) (m : Mo) (hi : InC ks ys ⟨FY, FM, FS, FD⟩ k m) (w : World) (hv : CalW w (.agg #[x, y]) ks ys)
    (bPN : Bd PN) (bPD : Bd PD) (bRN : Bd RN) (bRD : Bd RD) :
    Calls Tryd.prog 14 #[.agg #[x, y], .agg #[.int .i64 PN, .int .i64 PD, .int .i64 RN, .int .i64 RD, .int .i64 FY, .int .i64 FM, .bool FS, .int .i64 FD], .slice none 0 0] w fun e w' => e = .returned (.int .i64 (if (posB PN PD && shaB RN RD) then 0 else 80)) ∧ Below w.heap.size w w' := by
  have hl := fun w' (h : CalW w' (.agg #[x, y]) ks ys) => loan_yes x y ks ys PN PD RN RD FY FM FD FS k m hi w' h bPN bPD bRN bRD
  obtain ⟨Ak, nk, ck, Ay, ny, cy, e, _⟩ := hv.cal
  injection e with e
  injection e with e
  injection e with e1 e
  injection e with e2 e
  subst e1
  subst e2
  have hB0 : Below w.heap.size w ((w.alloc (.cells #[.slice Ak nk ck, .slice Ay ny cy] 54)).alloc (.cells #[.int .i64 PN, .int .i64 PD, .int .i64 RN, .int .i64 RD, .int .i64 FY, .int .i64 FM, .bool FS, .int .i64 FD] 31)) := (below_alloc' _ _).alloc (by simp) _
  have HL := Lib.hid (hl _ (hv.below hB0))
  clear hl hv hi
  generalize hq : (posB PN PD && shaB RN RD) = q at *
  clear hq
  cases q
  all_goals
    go_enter Tryd.func14, Tryd.ntmps14
    go_wp2_with (go_at_call 29; refine HL.out.mono ?_; rintro e w1 ⟨rfl, hb⟩)
    go_ret
    exact ⟨rfl, below_then hB0 hb⟩

set_option maxRecDepth 100000 in
set_option maxHeartbeats 1000000 in
theorem checkLoan_no (x y : Value) (ks : List ByteArray) (ys : List Yr) (PN PD RN RD FY FM FD : Int) (FS : Bool) (hi : chF ks ys [⟨FY, FM, FS, FD⟩] ≠ 0) (w : World) (hv : CalW w (.agg #[x, y]) ks ys)
    (bPN : Bd PN) (bPD : Bd PD) (bRN : Bd RN) (bRD : Bd RD) :
    Calls Tryd.prog 14 #[.agg #[x, y], .agg #[.int .i64 PN, .int .i64 PD, .int .i64 RN, .int .i64 RD, .int .i64 FY, .int .i64 FM, .bool FS, .int .i64 FD], .slice none 0 0] w fun e w' => e = .returned (.int .i64 (if false then 0 else 80)) ∧ Below w.heap.size w w' := by
  have hl := fun w' (h : CalW w' (.agg #[x, y]) ks ys) => loan_no x y ks ys PN PD RN RD FY FM FD FS hi w' h bPN bPD bRN bRD
  obtain ⟨Ak, nk, ck, Ay, ny, cy, e, _⟩ := hv.cal
  injection e with e
  injection e with e
  injection e with e1 e
  injection e with e2 e
  subst e1
  subst e2
  have hB0 : Below w.heap.size w ((w.alloc (.cells #[.slice Ak nk ck, .slice Ay ny cy] 54)).alloc (.cells #[.int .i64 PN, .int .i64 PD, .int .i64 RN, .int .i64 RD, .int .i64 FY, .int .i64 FM, .bool FS, .int .i64 FD] 31)) := (below_alloc' _ _).alloc (by simp) _
  have HL := Lib.hid (hl _ (hv.below hB0))
  clear hl hv hi
  generalize hq : false = q at *
  clear hq
  cases q
  all_goals
    go_enter Tryd.func14, Tryd.ntmps14
    go_wp2_with (go_at_call 29; refine HL.out.mono ?_; rintro e w1 ⟨rfl, hb⟩)
    go_ret
    exact ⟨rfl, below_then hB0 hb⟩
end Go.Proofs.YthpjeclhignciaaDoor
