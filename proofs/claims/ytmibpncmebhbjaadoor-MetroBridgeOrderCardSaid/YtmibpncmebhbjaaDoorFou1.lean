/- Plain: four ladders, and bridges made of links. -/
import Derived.Test.YtmibpncmebhbjaaDoorVal1
import Derived.Test.YtmibpncmebhbjaaDoorP6
namespace Go.Proofs.YtmibpncmebhbjaaDoor
open Go Go.RowKit Go.Shelf

structure Lk where
  From : Int
  SA : Int
  To : Int
  SB : Int
  N : Int
  D : Int
def LkBd (k : Lk) : Prop := Bd k.From ∧ Bd k.SA ∧ Bd k.To ∧ Bd k.SB ∧ Bd k.N ∧ Bd k.D
def lkV (k : Lk) : List Value := [.int .i64 k.From, .int .i64 k.SA, .int .i64 k.To, .int .i64 k.SB, .int .i64 k.N, .int .i64 k.D]
def lksV (l : List Lk) : List Value := l.flatMap lkV
theorem lksV_length (l : List Lk) : (lksV l).length = l.length * 6 := by
  induction l with
  | nil => rfl
  | cons u us ih => simp only [lksV, List.flatMap_cons, List.length_append] at ih ⊢; rw [ih]; simp [lkV]; omega
theorem lksV_get {l : List Lk} {k : Nat} (hk : k < l.length) (j : Nat) (hj : j < 6) : (lksV l)[k * 6 + j]? = (lkV l[k])[j]? := by
  induction l generalizing k with
  | nil => simp at hk
  | cons u us ih =>
    have e : lksV (u :: us) = lkV u ++ lksV us := rfl
    cases k with
    | zero => rw [e, List.getElem?_append_left (by simp [lkV]; omega)]; simp
    | succ k =>
      have := ih (k := k) (by simpa using hk)
      rw [e, List.getElem?_append_right (by simp [lkV]; omega)]
      rw [show (k + 1) * 6 + j - (lkV u).length = k * 6 + j from by simp [lkV]; omega]
      simpa using this
def facF (i : Nat) : List Int := [(i : Int), (i : Int) + 3, 3 * (i : Int) + 1]
def nmF (i : Nat) : ByteArray := ⟨#[UInt8.ofNat (119 + i)]⟩
theorem nmF_size (i : Nat) : (nmF i).size = 1 := rfl
def laF (i : Nat) : La := ⟨nmF i, validU (facF i), by rw [nmF_size]; decide⟩
def fl : List La := [laF 0, laF 1, laF 2, laF 3]
theorem fl_get {i : Nat} (h : i < 4) : fl[i]'h = laF i := by
  have : i = 0 ∨ i = 1 ∨ i = 2 ∨ i = 3 := by omega
  rcases this with e | e | e | e <;> subst e <;> rfl
theorem laF_len (i : Nat) : (laF i).us.length = 4 := by
  show (validU (facF i)).length = 4
  rw [validU_length]; rfl
theorem laF_sign (i : Nat) {j : Nat} (h : j < 4) : ((laF i).us[j]'(by rw [laF_len]; exact h)).sign = sgnB j := by
  have : j = 0 ∨ j = 1 ∨ j = 2 ∨ j = 3 := by omega
  rcases this with e | e | e | e <;> subst e <;> rfl
theorem ratioF_small {a b : Int} (ha1 : 1 ≤ a) (ha2 : a ≤ 12) (hb1 : 1 ≤ b) (hb2 : b ≤ 12) : (ratioF a b).e = 0 ∧ 0 < (ratioF a b).n := by
  obtain ⟨n, rfl⟩ := Int.eq_ofNat_of_zero_le (show 0 ≤ a by omega)
  obtain ⟨d, rfl⟩ := Int.eq_ofNat_of_zero_le (show 0 ≤ b by omega)
  obtain ⟨h1, h2⟩ := lowest n d (by omega)
  have e : ratioF (n : Int) (d : Int) = fit ((n : Rat) / (d : Rat)) := if_neg (by omega)
  have l1 : n / Nat.gcd n d ≤ n := Nat.div_le_self _ _
  have l2 : d / Nat.gcd n d ≤ d := Nat.div_le_self _ _
  have hg : 0 < Nat.gcd n d := Nat.gcd_pos_of_pos_left _ (by omega)
  have l3 : 1 ≤ n / Nat.gcd n d := Nat.div_pos (Nat.le_of_dvd (by omega) (Nat.gcd_dvd_left n d)) hg
  rw [e, fit_yes (by rw [h1]; omega) (by omega)]
  exact ⟨rfl, by simp only; omega⟩
def m4 (x : Int) : Nat := (x % 4).toNat
theorem m4_lt (x : Int) : m4 x < 4 := by unfold m4; omega
theorem m4_eq (x : Int) : ((m4 x : Nat) : Int) = x % 4 := by unfold m4; omega
def lkR (k : Lk) : RR := ratioF (1 + k.N % 12) (1 + k.D % 12)
theorem lkR_ok (k : Lk) : (lkR k).e = 0 ∧ 0 < (lkR k).n := ratioF_small (by omega) (by omega) (by omega) (by omega)
theorem lkR_isR (k : Lk) : isR (lkR k).n (lkR k).d = true := by
  have h := (lkR_ok k).1
  have e : lkR k = fit (((1 + k.N % 12 : Int) : Rat) / ((1 + k.D % 12 : Int) : Rat)) := if_neg (by omega)
  rw [e] at h ⊢
  by_cases h' : ((((1 + k.N % 12 : Int) : Rat) / ((1 + k.D % 12 : Int) : Rat))).num.natAbs ≤ 1099511627776 ∧ ((((1 + k.N % 12 : Int) : Rat) / ((1 + k.D % 12 : Int) : Rat))).den ≤ 1048576
  · rw [fit_yes h'.1 h'.2]
    have hd := ((((1 + k.N % 12 : Int) : Rat) / ((1 + k.D % 12 : Int) : Rat))).den_pos
    refine isR_iff.2 ⟨by simp only; omega, by simp only; omega, by simp only; omega, by simp only; omega, ?_⟩
    simp only [Int.natAbs_natCast]
    exact ((((1 + k.N % 12 : Int) : Rat) / ((1 + k.D % 12 : Int) : Rat))).reduced
  · rw [fit_no h'] at h; simp at h
def lkBr (k : Lk) : Br := ⟨nmF (m4 k.From), sgnB (m4 k.SA), nmF (m4 k.To), sgnB (m4 k.SB), (lkR k).n, (lkR k).d, (by have := isR_bd (lkR_isR k); unfold Bd; omega), (by have := isR_bd (lkR_isR k); unfold Bd; omega)⟩
def linksB (l : List Lk) : List Br := (l.take 6).map lkBr
theorem linksB_take {l : List Lk} {k : Nat} (h : k < l.length) : (l.take (k + 1)).map lkBr = (l.take k).map lkBr ++ [lkBr l[k]] := by
  rw [List.take_succ_eq_append_getElem h, List.map_append]; rfl
end Go.Proofs.YtmibpncmebhbjaaDoor
