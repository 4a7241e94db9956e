/- Walks of the package people: Same. Conditions: those stated. -/
import Derived.Test.YtdmcopjbckelmaaGreatDoorZF1
namespace Go.Proofs.YtdmcopjbckelmaaGreatDoor
open Go Go.RowKit Go.Shelf
attribute [local go_sem] Oper.semAt_some

/-- What Same answers: a bool, an error. -/
def sameV (ps : List ByteArray) (fs : List Fa) (a b : ByteArray) : Bool × Int :=
  if namedF ps fs [a, b] ≠ 0 then (false, namedF ps fs [a, b]) else if a = b then (true, 0) else match mergeF a b fs with
    | none => (false, 0)
    | some gs => (consF (mergeP b ps) gs, checkF (mergeP b ps) gs)
theorem short_merge {b : ByteArray} {ps : List ByteArray} (h : Short ps) : Short (mergeP b ps) := fun s hs => h s (mergeP_mem.1 hs).1
set_option maxRecDepth 100000 in
set_option maxHeartbeats 4000000 in
theorem same_bad (r : Int) (hr : r = 3 ∨ r = 100 ∨ r = 2) (A : Option Addr) (n c : Nat) (F : Option Addr) (m d : Nat) (ps : List ByteArray) (fs : List Fa) (a b : ByteArray) (w : World) (h : NetC w A n c F m d ps fs) (hs : Short ps) (hc : namedF ps fs [a, b] = r) :
    Calls Tryz.prog 42 #[.agg #[.slice A n c, .slice F m d], .string a, .string b] w fun e w' => e = .returned (.tuple #[.bool false, .int .i64 r]) ∧ Below w.heap.size w w' := by
  have hb0 := (below_alloc' w (.cells #[.slice A n c, .slice F m d] 25)).alloc (by simp) (.cells #[.string a, .string b] 9)
  have hS1 := Sl.new (s := 1) (w.alloc (.cells #[.slice A n c, .slice F m d] 25)) 9 2 2 #[.string a, .string b] rfl (Nat.le_refl _) (by decide)
  rw [World.size_alloc] at hS1
  have HK := Lib.hid (checkNames_any A n c F m d ps fs (.slice (some ⟨w.heap.size + 1, 0, none⟩) 2 2) [a, b] _ (h.below hb0) hs hS1)
  rw [hc] at HK
  clear h hs hc hS1
  rcases hr with rfl | rfl | rfl
  all_goals
    go_enter Tryz.func42, Tryz.ntmps42
    go_wp2_with fail
    refine HK.out.mono ?_
    rintro e w1 ⟨rfl, hb1⟩
    have HB := Lib.hid (hb0.trans (hb1.mono hb0.size))
    clear hb0 hb1
    go_wp2
    go_ret2
    exact ⟨rfl, HB.out⟩
set_option maxRecDepth 100000 in
set_option maxHeartbeats 4000000 in
theorem same_eq (A : Option Addr) (n c : Nat) (F : Option Addr) (m d : Nat) (ps : List ByteArray) (fs : List Fa) (a b : ByteArray) (w : World) (h : NetC w A n c F m d ps fs) (hs : Short ps) (hc : namedF ps fs [a, b] = 0) (hab : a = b) :
    Calls Tryz.prog 42 #[.agg #[.slice A n c, .slice F m d], .string a, .string b] w fun e w' => e = .returned (.tuple #[.bool true, .int .i64 0]) ∧ Below w.heap.size w w' := by
  have hb0 := (below_alloc' w (.cells #[.slice A n c, .slice F m d] 25)).alloc (by simp) (.cells #[.string a, .string b] 9)
  have hS1 := Sl.new (s := 1) (w.alloc (.cells #[.slice A n c, .slice F m d] 25)) 9 2 2 #[.string a, .string b] rfl (Nat.le_refl _) (by decide)
  rw [World.size_alloc] at hS1
  have HK := Lib.hid (checkNames_any A n c F m d ps fs (.slice (some ⟨w.heap.size + 1, 0, none⟩) 2 2) [a, b] _ (h.below hb0) hs hS1)
  rw [hc] at HK
  have heq : (a.toList == b.toList) = true := by rw [hab]; simp
  clear h hs hc hS1 hab
  go_enter Tryz.func42, Tryz.ntmps42
  go_wp2_with fail
  refine HK.out.mono ?_
  rintro e w1 ⟨rfl, hb1⟩
  have HB := Lib.hid (hb0.trans (hb1.mono hb0.size))
  clear hb0 hb1
  go_wp2
  go_ret2
  exact ⟨rfl, HB.out⟩
set_option maxRecDepth 100000 in
set_option maxHeartbeats 4000000 in
theorem same_good (A : Option Addr) (n c : Nat) (F : Option Addr) (m d : Nat) (ps : List ByteArray) (fs : List Fa) (a b : ByteArray) (w : World) (h : NetC w A n c F m d ps fs) (hs : Short ps) (hc : namedF ps fs [a, b] = 0) (hab : a ≠ b) :
    Calls Tryz.prog 42 #[.agg #[.slice A n c, .slice F m d], .string a, .string b] w fun e w' => e = .returned (.tuple #[.bool (sameV ps fs a b).1, .int .i64 (sameV ps fs a b).2]) ∧ Below w.heap.size w w' := by
  have hb0 := (below_alloc' w (.cells #[.slice A n c, .slice F m d] 25)).alloc (by simp) (.cells #[.string a, .string b] 9)
  have y0 := (Cel.new w 25 #[.slice A n c, .slice F m d]).alloc (.cells #[.string a, .string b] 9)
  have hS1 := Sl.new (s := 1) (w.alloc (.cells #[.slice A n c, .slice F m d] 25)) 9 2 2 #[.string a, .string b] rfl (Nat.le_refl _) (by decide)
  rw [World.size_alloc] at hS1
  have HK := Lib.hid (checkNames_any A n c F m d ps fs (.slice (some ⟨w.heap.size + 1, 0, none⟩) 2 2) [a, b] _ (h.below hb0) hs hS1)
  rw [hc] at HK
  have HN := Lib.hid h
  have HM := Lib.hid (fun w' h' => merge_any A n c F m d ps fs a b w' h' hs)
  have HMv := Lib.hid (show mergeV ps fs a b = match mergeF a b fs with | none => ([], [], 101) | some gs => (mergeP b ps, gs, 0) by unfold mergeV; rw [hc, if_neg (fun q => q rfl), if_neg hab]; first | done | rfl)
  have HSv := Lib.hid (show sameV ps fs a b = match mergeF a b fs with | none => (false, 0) | some gs => (consF (mergeP b ps) gs, checkF (mergeP b ps) gs) by unfold sameV; rw [hc, if_neg (fun q => q rfl), if_neg hab]; first | done | rfl)
  have HSh := Lib.hid (short_merge (b := b) hs)
  have heq : (a.toList == b.toList) = false := by rw [beqL]; exact decide_eq_false hab
  rw [HSv.out]
  clear h hs hc hS1 hab HSv
  cases hq : mergeF a b fs with
  | none =>
    rw [hq] at HMv
    go_enter Tryz.func42, Tryz.ntmps42
    go_wp2_with fail
    refine HK.out.mono ?_
    rintro e w1 ⟨rfl, hb1⟩
    have HB := Lib.hid (hb0.trans (hb1.mono hb0.size))
    have HY := Lib.hid (y0.below y0.lt hb1)
    have z0 := HY.out.cell 0 _ rfl
    have z1 := HY.out.cell 1 _ rfl
    clear hb0 hb1 y0 HK
    go_wp2_with fail
    have HM1 := Lib.hid (HM.out w1 (HN.out.below HB.out))
    rw [HMv.out] at HM1
    refine HM1.out.mono ?_
    rintro e w2 ⟨hb2, A2, n2, c2, F2, m2, d2, rfl, hn2⟩
    have HB2 := Lib.hid (HB.out.trans (hb2.mono HB.out.size))
    have HB3 := Lib.hid (HB2.out.alloc HB2.out.size (.cells #[.slice A2 n2 c2, .slice F2 m2 d2] 25))
    clear hb2 hn2 HM1 z0 z1 hq
    go_wp2
    go_ret2
    exact ⟨rfl, HB3.out⟩
  | some gs =>
    rw [hq] at HMv
    go_enter Tryz.func42, Tryz.ntmps42
    go_wp2_with fail
    refine HK.out.mono ?_
    rintro e w1 ⟨rfl, hb1⟩
    have HB := Lib.hid (hb0.trans (hb1.mono hb0.size))
    have HY := Lib.hid (y0.below y0.lt hb1)
    have z0 := HY.out.cell 0 _ rfl
    have z1 := HY.out.cell 1 _ rfl
    clear hb0 hb1 y0 HK
    go_wp2_with fail
    have HM1 := Lib.hid (HM.out w1 (HN.out.below HB.out))
    rw [HMv.out] at HM1
    refine HM1.out.mono ?_
    rintro e w2 ⟨hb2, A2, n2, c2, F2, m2, d2, rfl, hn2⟩
    have HB2 := Lib.hid (HB.out.trans (hb2.mono HB.out.size))
    have HB3 := Lib.hid (HB2.out.alloc HB2.out.size (.cells #[.slice A2 n2 c2, .slice F2 m2 d2] 25))
    have HC := Lib.hid (consistent_any A2 n2 c2 F2 m2 d2 (mergeP b ps) gs _ (NetC.below hn2 (below_alloc' w2 (.cells #[.slice A2 n2 c2, .slice F2 m2 d2] 25))) HSh.out)
    clear hb2 hn2 HM1 z0 z1 hq
    go_wp2_with fail
    refine HC.out.mono ?_
    rintro e w4 ⟨rfl, hb4⟩
    have HB4 := Lib.hid (HB3.out.trans (hb4.mono HB3.out.size))
    clear hb4
    go_wp2
    go_ret2
    exact ⟨rfl, HB4.out⟩
theorem same_any (A : Option Addr) (n c : Nat) (F : Option Addr) (m d : Nat) (ps : List ByteArray) (fs : List Fa) (a b : ByteArray) (w : World) (h : NetC w A n c F m d ps fs) (hs : Short ps) :
    Calls Tryz.prog 42 #[.agg #[.slice A n c, .slice F m d], .string a, .string b] w fun e w' => e = .returned (.tuple #[.bool (sameV ps fs a b).1, .int .i64 (sameV ps fs a b).2]) ∧ Below w.heap.size w w' := by
  rcases namedF_cases ps fs [a, b] with hr | ⟨hc, _⟩
  · have := same_bad _ hr A n c F m d ps fs a b w h hs rfl
    have e : sameV ps fs a b = (false, namedF ps fs [a, b]) := if_pos (by omega)
    rw [e]
    exact this
  · by_cases hab : a = b
    · have e : sameV ps fs a b = (true, 0) := by
        unfold sameV
        rw [if_neg (by omega), if_pos hab]
      rw [e]
      exact same_eq A n c F m d ps fs a b w h hs hc hab
    · exact same_good A n c F m d ps fs a b w h hs hc hab
end Go.Proofs.YtdmcopjbckelmaaGreatDoor
