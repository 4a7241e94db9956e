/- Walks of the package date: At, Number, Between, Scheme. Conditions: those stated. -/
import Derived.Test.YthpjeclhignciaaDoorT8
namespace Go.Proofs.YthpjeclhignciaaDoor
open Go Go.RowKit Go.Shelf
attribute [local go_sem] Oper.semAt_some

theorem Sl.nilD (w : World) : Sl w 4 (.slice none 0 0) (dtsV []) := Sl.nil0 w 4
/-- What At answers: a date and an error. -/
structure DE where
  d : Dt
  e : Int
def atE (ks : List ByteArray) (ys : List Yr) (n : Int) : DE :=
  if calB ks ys then (match atF (mos ys) n with | some m => ⟨⟨m.yr, m.num, m.sec, n - m.day + 1⟩, 0⟩ | none => ⟨⟨0, 0, false, 0⟩, 8⟩) else ⟨⟨0, 0, false, 0⟩, 70⟩
def deV (r : DE) : Value := .tuple #[.agg #[.int .i64 r.d.Y, .int .i64 r.d.M, .bool r.d.S, .int .i64 r.d.D], .int .i64 r.e]

set_option maxRecDepth 100000 in
set_option maxHeartbeats 2000000 in
theorem At_any (v : Value) (ks : List ByteArray) (ys : List Yr) (n : Int) (w : World) (hv : CalW w v ks ys) (hn : Bd n) :
    Calls Tryd.prog 4 #[v, .int .i64 n] w fun e w' => e = .returned (deV (atE ks ys n)) ∧ Below w.heap.size w w' := by
  obtain ⟨x, y, rfl⟩ := hv.shape
  have hB0 : Below w.heap.size w ((w.alloc (.cells #[x, y] 25)).alloc (.cells #[.int .i64 0, .int .i64 0, .bool false, .int .i64 0] 29)) := (below_alloc' _ _).alloc (by simp) _
  have Y0 := (Cel.new w 25 #[x, y]).alloc (.cells #[.int .i64 0, .int .i64 0, .bool false, .int .i64 0] 29)
  have Y1 := Cel.new (w.alloc (.cells #[x, y] 25)) 29 #[.int .i64 0, .int .i64 0, .bool false, .int .i64 0]
  simp only [World.size_alloc] at Y1
  have hk := checks_any (.agg #[x, y]) ks ys (.slice none 0 0) [] _ (hv.below hB0) (Sl.nilD _)
  cases hc : calB ks ys with
  | false =>
    have HF := Lib.hid (show atE ks ys n = ⟨⟨0, 0, false, 0⟩, 70⟩ by unfold atE; rw [hc]; rfl)
    rw [show chF ks ys [] = 70 by unfold chF; rw [hc]; rfl] at hk
    have HK := Lib.hid hk
    clear hk hc hv
    go_enter Tryd.func4, Tryd.ntmps4
    go_wp2_with (go_at_call 11; refine HK.out.mono ?_; rintro e w1 ⟨rfl, hb⟩; have T1 := Y1.below Y1.lt hb; have f0 := T1.frozen 0; have f1 := T1.frozen 1; have f2 := T1.frozen 2; have f3 := T1.frozen 3; have c0 := T1.cell 0 _ rfl; have c1 := T1.cell 1 _ rfl; have c2 := T1.cell 2 _ rfl; have c3 := T1.cell 3 _ rfl)
    have hB1 := below_then hB0 hb
    exact bodyPost_ret (v := .tuple #[.agg #[.int .i64 0, .int .i64 0, .bool false, .int .i64 0], .int .i64 70]) (by simp [results, Tryd.results4, go_sem, c0, c1, c2, c3]) rfl
      ⟨by rw [HF.out]; rfl, (((hB1.setCell (p := ⟨w.heap.size + 1, 0, none⟩) (by simp) _).setCell (p := ⟨w.heap.size + 1, 1, none⟩) (by simp) _).setCell (p := ⟨w.heap.size + 1, 2, none⟩) (by simp) _).setCell (p := ⟨w.heap.size + 1, 3, none⟩) (by simp) _⟩
  | true =>
    obtain ⟨hl, hok⟩ := calB_years hc
    rw [show chF ks ys [] = 0 by unfold chF; rw [hc]; rfl] at hk
    have HF := Lib.hid (show atV (mos ys) n = deV (atE ks ys n) by
      unfold atV atE deV; rw [hc]; cases atF (mos ys) n <;> rfl)
    have HK := Lib.hid hk
    have HA := Lib.hid (fun w1 (hb : Below ((w.alloc (.cells #[x, y] 25)).alloc (.cells #[.int .i64 0, .int .i64 0, .bool false, .int .i64 0] 29)).heap.size ((w.alloc (.cells #[x, y] 25)).alloc (.cells #[.int .i64 0, .int .i64 0, .bool false, .int .i64 0] 29)) w1) =>
      at_any (.agg #[x, y]) ks ys n w1 ((hv.below hB0).below hb).cal hok hl hn)
    rw [HF.out] at HA
    obtain ⟨r, hr⟩ : ∃ r, atE ks ys n = r := ⟨_, rfl⟩
    rw [hr] at HA ⊢
    clear hr
    obtain ⟨⟨rY, rM, rS, rD⟩, re⟩ := r
    simp only [deV] at HA ⊢
    clear HF hk hc hv hok
    go_enter Tryd.func4, Tryd.ntmps4
    go_wp2_with (first
      | (go_at_call 11; refine HK.out.mono ?_; rintro e w1 ⟨rfl, hb⟩; have T0 := Y0.below Y0.lt hb; have T1 := Y1.below Y1.lt hb; have z0 := T0.cell 0 _ rfl; have z1 := T0.cell 1 _ rfl)
      | (go_at_call 12; refine (HA.out _ hb).mono ?_; rintro e w2 ⟨rfl, hb2⟩; have T2 := T1.below T1.lt hb2; have f0 := T2.frozen 0; have f1 := T2.frozen 1; have f2 := T2.frozen 2; have f3 := T2.frozen 3; have c0 := T2.cell 0 _ rfl; have c1 := T2.cell 1 _ rfl; have c2 := T2.cell 2 _ rfl; have c3 := T2.cell 3 _ rfl))
    have hB2 := below_then (below_then hB0 hb) hb2
    exact bodyPost_ret (v := .tuple #[.agg #[.int .i64 rY, .int .i64 rM, .bool rS, .int .i64 rD], .int .i64 re]) (by simp [results, Tryd.results4, go_sem, c0, c1, c2, c3]) rfl
      ⟨rfl, (((hB2.setCell (p := ⟨w.heap.size + 1, 0, none⟩) (by simp) _).setCell (p := ⟨w.heap.size + 1, 1, none⟩) (by simp) _).setCell (p := ⟨w.heap.size + 1, 2, none⟩) (by simp) _).setCell (p := ⟨w.heap.size + 1, 3, none⟩) (by simp) _⟩
end Go.Proofs.YthpjeclhignciaaDoor
