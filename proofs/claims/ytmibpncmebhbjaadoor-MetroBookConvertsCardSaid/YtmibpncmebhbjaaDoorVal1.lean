/- Plain: the ladders that the statements make of factors are valid. -/
import Derived.Test.YtmibpncmebhbjaaDoorLad1
namespace Go.Proofs.YtmibpncmebhbjaaDoor
open Go Go.RowKit Go.Shelf

def bringF (n m : Int) : Int := if m < 1 then 0 else n % m
def sgnB (i : Nat) : ByteArray := ⟨#[UInt8.ofNat (97 + i)]⟩
theorem sgnB_size (i : Nat) : (sgnB i).size = 1 := rfl
theorem bring9 (f : Int) : 0 ≤ f % 9 ∧ f % 9 ≤ 8 := by omega
def mkV (i : Nat) (f : Int) : Un := ⟨sgnB (i + 1), 2 + f % 9, by rw [sgnB_size]; decide, by have := bring9 f; unfold Bd; omega⟩
def vu : Nat → List Int → List Un
  | _, [] => []
  | i, f :: fs => mkV i f :: vu (i + 1) fs
def vu0 : Un := ⟨sgnB 0, 1, by rw [sgnB_size]; decide, by unfold Bd; decide⟩
def validU (fs : List Int) : List Un := vu0 :: vu 0 (fs.take 7)
theorem vu_length (i : Nat) (l : List Int) : (vu i l).length = l.length := by
  induction l generalizing i with
  | nil => rfl
  | cons x l ih => simp [vu, ih]
theorem vu_snoc (i : Nat) (l : List Int) (x : Int) : vu i (l ++ [x]) = vu i l ++ [mkV (i + l.length) x] := by
  induction l generalizing i with
  | nil => rfl
  | cons y l ih => simp only [List.cons_append, vu, ih, List.length_cons]; rw [show i + 1 + l.length = i + (l.length + 1) by omega]
theorem validU_length (fs : List Int) : (validU fs).length = min 7 fs.length + 1 := by simp [validU, vu_length]
theorem sgnB_name {i : Nat} (h : i ≤ 7) : nameB (sgnB i) = true := by
  have : i = 0 ∨ i = 1 ∨ i = 2 ∨ i = 3 ∨ i = 4 ∨ i = 5 ∨ i = 6 ∨ i = 7 := by omega
  rcases this with e | e | e | e | e | e | e | e <;> subst e <;> rfl
theorem sgnB_inj {i j : Nat} (hi : i ≤ 7) (hj : j ≤ 7) (h : sgnB i = sgnB j) : i = j := by
  have h1 : (#[UInt8.ofNat (97 + i)] : Array UInt8) = #[UInt8.ofNat (97 + j)] := by injection h
  have h2 : UInt8.ofNat (97 + i) = UInt8.ofNat (97 + j) := by simpa using h1
  have h3 := congrArg UInt8.toNat h2
  simp only [UInt8.toNat_ofNat'] at h3
  omega
theorem vu_signs (i : Nat) (l : List Int) : sgnsU (vu i l) = (List.range l.length).map fun k => sgnB (i + 1 + k) := by
  induction l generalizing i with
  | nil => rfl
  | cons x l ih =>
    rw [List.length_cons, List.range_succ_eq_map, List.map_cons, List.map_map]
    have := ih (i + 1)
    simp only [sgnsU] at this ⊢
    rw [vu, List.map_cons, this]
    congr 1
    refine List.map_congr_left fun k _ => ?_
    simp only [Function.comp]
    rw [show i + 1 + 1 + k = i + 1 + k.succ by omega]
theorem rGo_vu (pre : List Int) (l : List Int) (h : pre.length + l.length ≤ 7) : rGo (vu0 :: vu 0 pre) (vu pre.length l) = true := by
  induction l generalizing pre with
  | nil => rfl
  | cons x l ih =>
    simp only [vu, rGo, Bool.and_eq_true]
    constructor
    · have hb := bring9 x
      have hn : ¬ sgnB (pre.length + 1) ∈ sgnsU (vu0 :: vu 0 pre) := by
        intro hm
        rw [show sgnsU (vu0 :: vu 0 pre) = sgnB 0 :: sgnsU (vu 0 pre) from rfl, vu_signs] at hm
        rcases List.mem_cons.1 hm with e | hm
        · have := sgnB_inj (by simp at h; omega) (by omega) e
          omega
        · obtain ⟨k, hk, e⟩ := List.mem_map.1 hm
          have hk' := List.mem_range.1 hk
          have := sgnB_inj (by simp at h; omega) (by simp at h; omega) e
          omega
      unfold okU
      rw [show (mkV pre.length x).sign = sgnB (pre.length + 1) from rfl, sgnB_name (by simp at h; omega), decide_eq_false hn]
      rw [if_neg (by simp)]
      rw [show (mkV pre.length x).factor = 2 + x % 9 from rfl, decide_eq_true (by omega : 2 ≤ 2 + x % 9), decide_eq_true (by omega : 2 + x % 9 ≤ 60)]
      rfl
    · have := ih (pre ++ [x]) (by simp at h ⊢; omega)
      rw [List.length_append, vu_snoc] at this
      simpa using this
theorem yl_vu (i : Nat) (l : List Int) (v : Int) (hv : 1 ≤ v) (h : v ≤ 10 ^ i) (hl : i + l.length ≤ 7) : (yl (vu i l) v hv).length = l.length := by
  induction l generalizing i v with
  | nil => rfl
  | cons x l ih =>
    have hb := bring9 x
    have e : (mkV i x).factor = 2 + x % 9 := rfl
    have h1 : 1 ≤ (mkV i x).factor ∧ (mkV i x).factor ≤ 60 := by rw [e]; omega
    have h10 : v * (mkV i x).factor ≤ 10 ^ (i + 1) := by
      rw [e, Int.pow_succ]
      exact Int.mul_le_mul h (by omega) (by omega) (by exact Int.pow_nonneg (by decide))
    have h7 : (10 : Int) ^ (i + 1) ≤ 10 ^ 7 := by exact_mod_cast Nat.pow_le_pow_right (by decide : 0 < 10) (show i + 1 ≤ 7 by simp at hl; omega)
    have h2 : v * (mkV i x).factor ≤ 1099511627776 := Int.le_trans h10 (Int.le_trans h7 (by decide))
    rw [vu, yl_go h1 h2, List.length_cons, ih (i + 1) _ _ h10 (by simp at hl ⊢; omega), List.length_cons]
/-- A ladder of a valid name and of such units is valid. -/
theorem valid_ok {nm : ByteArray} (h : nameB nm = true) (fs : List Int) : checkF nm (validU fs) = 0 := by
  have hl := validU_length fs
  have h1 : rGo [] (validU fs) = true := by
    rw [validU, rGo, Bool.and_eq_true]
    exact ⟨by kernel_rfl, rGo_vu [] (fs.take 7) (by simp; omega)⟩
  have h2 : (yl (validU fs) 1 (by decide)).length = (validU fs).length := by
    rw [validU, yl_go (u := vu0) (by decide) (by decide), List.length_cons, List.length_cons, vu_length]
    congr 1
    exact yl_vu 0 (fs.take 7) _ _ (by decide) (by simp; omega)
  rw [checkF_r, rcheckB, h, h1, decide_eq_true (by omega : 1 ≤ (validU fs).length), decide_eq_true (by omega : (validU fs).length ≤ 12), decide_eq_true h2]
  rfl
end Go.Proofs.YtmibpncmebhbjaaDoor
