/- Walks of the package date: whether a calendar is valid. Conditions: those stated. -/
import Derived.Test.YthpjeclhignciaaDoorT4
import Derived.Test.YthpjeclhignciaaDoorMapK
namespace Go.Proofs.YthpjeclhignciaaDoor
open Go Go.RowKit Go.Shelf
attribute [local go_sem] Oper.semAt_some

def nmK (p : Int × ByteArray) : Value := .agg #[.int .i64 p.1, .string p.2]
theorem nm_keyS : KeyS Tryd.prog 100 nmK where
  kind := ⟨_, Tryd.underlying100⟩
  eq a b w := by
    obtain ⟨a1, a2⟩ := a
    obtain ⟨b1, b2⟩ := b
    have t : (a2.toList = b2.toList) ↔ a2 = b2 := by
      have := bytes_toList_beq a2 b2
      rw [Bool.eq_iff_iff] at this
      simpa using this
    unfold Op.equal
    rw [show Op.maxDepth = 9999 + 1 from rfl]
    unfold Op.equalIn
    simp only [nmK]
    simp [go_sem]
    by_cases h1 : a1 = b1 <;> by_cases h2 : a2 = b2 <;> simp [h1, t, h2]
  ck em a w := by
    have h1 : ∀ x : Int, (Instr.checkKey em 9999 3 (.int .i64 x)).run Tryd.prog w = .ok () w := fun x => by
      rw [show (9999 : Nat) = 9998 + 1 from rfl]; unfold Instr.checkKey; simp [go_sem]
    have h2 : ∀ x : ByteArray, (Instr.checkKey em 9999 9 (.string x)).run Tryd.prog w = .ok () w := fun x => by
      rw [show (9999 : Nat) = 9998 + 1 from rfl]; unfold Instr.checkKey; simp [go_sem]
    unfold Instr.checkKey
    simp only [nmK]
    simp [go_sem, h1, h2, Result.andThen]
  agg a := ⟨_, rfl⟩

def keysY (l : List Yr) : List (Int × ByteArray) := l.map fun y => (y.king, y.name)
def lastK (pre : List Yr) : Int := match pre.getLast? with | some y => y.king | none => 0
def okY (nk : Nat) (K : Int) (pre : List (Int × ByteArray)) (y : Yr) : Bool :=
  !decide (y.king < K) && (!decide ((nk : Int) ≤ y.king) && (nameB y.name && (!decide ((y.king, y.name) ∈ pre) && (!decide (y.dbl < 0) && (!decide (12 < y.dbl) && (!decide (y.long < 0) && (!decide (8191 < y.long) && !((y.dbl == 0) && decide (4096 ≤ y.long)))))))))
def cGo (nk : Nat) (pre : List Yr) : List Yr → Bool
  | [] => true
  | y :: l => okY nk (lastK pre) (keysY pre) y && cGo nk (pre ++ [y]) l
theorem cGo_append (nk : Nat) (p a b : List Yr) : cGo nk p (a ++ b) = (cGo nk p a && cGo nk (p ++ a) b) := by
  induction a generalizing p with
  | nil => simp [cGo]
  | cons s a ih => simp [cGo, ih, Bool.and_assoc]
theorem cGo_snoc (nk : Nat) (l : List Yr) (y : Yr) : cGo nk [] (l ++ [y]) = (cGo nk [] l && okY nk (lastK l) (keysY l) y) := by simp [cGo_append, cGo]
/-- Is a calendar valid? -/
def calB (ks : List ByteArray) (ys : List Yr) : Bool := kingsB ks && (!decide ((ys.length : Int) < 1) && (!decide (400 < (ys.length : Int)) && cGo ks.length [] ys))
theorem lastK_snoc (l : List Yr) (y : Yr) : lastK (l ++ [y]) = y.king := by simp [lastK]
def seenK (l : List Yr) : List ((Int × ByteArray) × Value) := l.map fun y => ((y.king, y.name), .bool true)
theorem getK_seen (l : List Yr) (k : Int × ByteArray) : getK (seenK l) k = if k ∈ keysY l then some (.bool true) else none := by
  induction l with
  | nil => rfl
  | cons y l ih =>
    simp only [seenK, getK, keysY, List.map_cons, List.find?_cons, List.mem_cons] at ih ⊢
    by_cases e : k = (y.king, y.name)
    · simp [e]
    · rw [decide_eq_false e]
      simp only [e, false_or]
      exact ih
theorem seenK_snoc (l : List Yr) (y : Yr) : seenK (l ++ [y]) = seenK l ++ [((y.king, y.name), .bool true)] := by simp [seenK]
theorem cGo_year {nk : Nat} {l : List Yr} (h : cGo nk [] l = true) {y : Yr} (hy : y ∈ l) : 0 ≤ y.dbl ∧ y.dbl ≤ 12 ∧ 0 ≤ y.long ∧ y.long ≤ 8191 := by
  obtain ⟨a, b, rfl⟩ := List.append_of_mem hy
  rw [show a ++ y :: b = (a ++ [y]) ++ b by simp, cGo_append, Bool.and_eq_true, cGo_snoc, Bool.and_eq_true] at h
  have := h.1.2
  simp only [okY, Bool.and_eq_true, Bool.not_eq_true', decide_eq_false_iff_not] at this
  omega
/-- What a valid calendar's years are like. -/
theorem calB_years {ks : List ByteArray} {ys : List Yr} (h : calB ks ys = true) : ys.length ≤ 400 ∧ ∀ y ∈ ys, 0 ≤ y.long ∧ y.long ≤ 8191 := by
  unfold calB at h
  simp only [Bool.and_eq_true, Bool.not_eq_true', decide_eq_false_iff_not] at h
  exact ⟨by omega, fun y hy => ⟨(cGo_year h.2.2.2 hy).2.2.1, (cGo_year h.2.2.2 hy).2.2.2⟩⟩
end Go.Proofs.YthpjeclhignciaaDoor
