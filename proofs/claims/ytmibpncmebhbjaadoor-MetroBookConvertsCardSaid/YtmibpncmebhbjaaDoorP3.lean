/- The walks of IsName of metro and of its reference: both say whether a string is a name. No condition but that a string is shorter than 2 to the 63. metro's iterator over the units of a ladder, with the values of their signs: its contract. Condition: strings are shorter than 2 to the 63, numbers are ints. A map from strings, made in the call: what it holds, as a list of keys and values. Look-up, storing under a new key, the length. metro.Check, at every ladder. metro.Value, at every ladder and sign. metro.split, metro.Split: the canonical counts. metro.Split: the canonical counts, or the error. -/
import Derived.Test.YtmibpncmebhbjaaDoorP1
import Derived.Test.YtmibpncmebhbjaaDoorP2
import Derived.RangeFuncNested
import Derived.RangeFuncBound
import Derived.RangeFuncCalls
import Derived.RangeFuncLeaves
import Derived.Shelf.Abstract
import Derived.Shelf.RegionOpen
import Derived.OwnWalkIn
import Derived.TacticsInMore
import Derived.LoopNIn
import Derived.LoopIn
import Derived.Maps.OwnIn
import Derived.Deep.OwnRows
namespace Go.Proofs.YtmibpncmebhbjaaDoor
section
open Go Go.RowKit

/-- A byte of a name, as a number. -/
def okC (c : Int) : Bool := decide (97 ≤ c ∧ c ≤ 122) || decide (48 ≤ c ∧ c ≤ 57) || decide (c = 95)
def lowC (c : Int) : Bool := decide (97 ≤ c ∧ c ≤ 122)
/-- Is a string a name? -/
def nameB (s : ByteArray) : Bool :=
  decide (1 ≤ s.size) && decide (s.size ≤ 16) && (s.data.toList.head?.map fun c => lowC (c.toNat : Int)).getD false && s.data.toList.all fun c => okC (c.toNat : Int)

theorem nameB_len {s : ByteArray} (h : ¬ (1 ≤ s.size ∧ s.size ≤ 16)) : nameB s = false := by
  unfold nameB
  have : (decide (1 ≤ s.size) && decide (s.size ≤ 16)) = false := by
    rw [← Bool.decide_and]; exact decide_eq_false h
  rw [this]; simp
theorem head_get {s : ByteArray} (h : 0 < s.size) : s.data.toList.head? = some s[0] := by
  rw [List.head?_eq_getElem?]
  have : s.data.toList[0]? = some (s.data[0]'h) := by simp [h]
  exact this
theorem nameB_first {s : ByteArray} (h : 0 < s.size) (hc : lowC (s[0].toNat : Int) = false) : nameB s = false := by
  unfold nameB
  rw [head_get h]
  simp [hc]
theorem nameB_bad {s : ByteArray} {k : Nat} (h : k < s.size) (hc : okC (s[k].toNat : Int) = false) : nameB s = false := by
  unfold nameB
  have : (s.data.toList.all fun c => okC (c.toNat : Int)) = false := by
    rw [List.all_eq_false]
    refine ⟨s[k], ?_, by simp [hc]⟩
    have : s.data.toList[k]? = some (s.data[k]'h) := by
      rw [Array.getElem?_toList]
      exact Array.getElem?_eq_getElem h
    exact List.mem_of_getElem? this
  simp [this]
theorem nameB_good {s : ByteArray} (h1 : 1 ≤ s.size) (h2 : s.size ≤ 16) (hc : lowC (s[0].toNat : Int) = true) (h : ∀ j (hj : j < s.size), okC (s[j].toNat : Int) = true) : nameB s = true := by
  unfold nameB
  rw [head_get h1]
  have : (s.data.toList.all fun c => okC (c.toNat : Int)) = true := by
    rw [List.all_eq_true]
    intro c hcm
    obtain ⟨j, hj⟩ := List.getElem?_of_mem hcm
    have hjs : j < s.size := by
      rcases Nat.lt_or_ge j s.size with h | h
      · exact h
      · rw [Array.getElem?_toList, Array.getElem?_eq_none h] at hj; cases hj
    have e : s.data.toList[j]? = some (s.data[j]'hjs) := by
      rw [Array.getElem?_toList]
      exact Array.getElem?_eq_getElem hjs
    rw [e] at hj
    injection hj with hj
    rw [← hj]
    exact h j hjs
  simp [h1, h2, hc, this]

theorem okC_yes {c : Int} (h : (97 ≤ c ∧ c ≤ 122) ∨ (48 ≤ c ∧ c ≤ 57) ∨ c = 95) : okC c = true := by
  unfold okC; rcases h with h | h | h <;> simp [h]
theorem okC_no {c : Int} (h : ¬ ((97 ≤ c ∧ c ≤ 122) ∨ (48 ≤ c ∧ c ≤ 57) ∨ c = 95)) : okC c = false := by
  unfold okC
  rw [decide_eq_false (fun h' => h (.inl h')), decide_eq_false (fun h' => h (.inr (.inl h'))), decide_eq_false (fun h' => h (.inr (.inr h')))]; rfl
theorem lowC_no {c : Int} (h : ¬ (97 ≤ c ∧ c ≤ 122)) : lowC c = false := decide_eq_false h
/-- Seven kinds of bytes, with the walk's own test. -/
theorem byte_cases (c : Int) : (c < 48 ∧ (c != 95) = true) ∨ (48 ≤ c ∧ c ≤ 57 ∧ (c != 95) = true) ∨ (58 ≤ c ∧ c ≤ 94 ∧ (c != 95) = true) ∨ (95 ≤ c ∧ c ≤ 95 ∧ (c != 95) = false) ∨ (96 ≤ c ∧ c ≤ 96 ∧ (c != 95) = true) ∨
    (97 ≤ c ∧ c ≤ 122 ∧ (c != 95) = true) ∨ (122 < c ∧ (c != 95) = true) := by
  by_cases h : c = 95
  · subst h; simp
  · have hb : (c != 95) = true := by simpa using h
    simp only [hb]
    simp
    omega
theorem ne_empty {s : ByteArray} (h : 0 < s.size) : ¬ s = ByteArray.empty := by rintro rfl; simp at h

set_option maxHeartbeats 1000000 in
theorem isName_any (s : ByteArray) (w : World) (hs : (s.size : Int) ≤ 9223372036854775807) :
    Calls Tryd.prog 25 #[.string s] w fun e w' => e = .returned (.bool (nameB s)) ∧ w = w' := by
  by_cases hl : 1 ≤ s.size ∧ s.size ≤ 16
  · obtain ⟨hl1, hl2⟩ := hl
    have h0 : 0 < s.size := hl1
    have hne := ne_empty h0
    have e0 : ((s.size : Int) == 0) = false := by rw [beq_eq_false_iff_ne]; omega
    by_cases hc0 : (97 : Int) ≤ (s[0].toNat : Int) ∧ (s[0].toNat : Int) ≤ 122
    · obtain ⟨hc1, hc2⟩ := hc0
      have hlow : lowC (s[0].toNat : Int) = true := by simp [lowC, hc1, hc2]
      have HL := Lib.hid hlow
      clear hlow
      go_enter Tryd.func25, Tryd.ntmps25
      go_wp2
      go_loop [3, 4, 25] (fun _ _ i => ∃ k : Nat, k ≤ s.size ∧ i = .int .i64 k ∧ ∀ j (hj : j < s.size), j < k → okC (s[j].toNat : Int) = true) (fun _ _ i => s.size - (intOf i).toNat)
      case atStart => exact ⟨0, by omega, rfl, fun j _ hj => by omega⟩
      case round =>
        obtain ⟨k, hk, rfl, hz⟩ := hrel
        have HZ := Lib.hid hz
        clear hz
        by_cases hlt : k < s.size
        · rcases byte_cases (s[k].toNat : Int) with ⟨h1, hb⟩ | ⟨h1, h2, hb⟩ | ⟨h1, h2, hb⟩ | ⟨h1, h2, hb⟩ | ⟨h1, h2, hb⟩ | ⟨h1, h2, hb⟩ | ⟨h1, hb⟩
          · have HO := Lib.hid (nameB_bad hlt (okC_no (c := (s[k].toNat : Int)) (by omega)))
            go_wp2
            go_ret
            exact ⟨ret_bool HO.out.symm, rfl⟩
          · have HO := Lib.hid (okC_yes (c := (s[k].toNat : Int)) (by omega))
            go_wp2
            go_round
            case rel =>
              refine ⟨k + 1, by omega, by go_num, fun j hjs hj => ?_⟩
              rcases Nat.lt_or_ge j k with h | h
              · exact HZ.out j hjs h
              · have : j = k := by omega
                subst this
                exact HO.out
            case measure => simp [intOf]; omega
          · have HO := Lib.hid (nameB_bad hlt (okC_no (c := (s[k].toNat : Int)) (by omega)))
            go_wp2
            go_ret
            exact ⟨ret_bool HO.out.symm, rfl⟩
          · have HO := Lib.hid (okC_yes (c := (s[k].toNat : Int)) (by omega))
            go_wp2
            go_round
            case rel =>
              refine ⟨k + 1, by omega, by go_num, fun j hjs hj => ?_⟩
              rcases Nat.lt_or_ge j k with h | h
              · exact HZ.out j hjs h
              · have : j = k := by omega
                subst this
                exact HO.out
            case measure => simp [intOf]; omega
          · have HO := Lib.hid (nameB_bad hlt (okC_no (c := (s[k].toNat : Int)) (by omega)))
            go_wp2
            go_ret
            exact ⟨ret_bool HO.out.symm, rfl⟩
          · have HO := Lib.hid (okC_yes (c := (s[k].toNat : Int)) (by omega))
            go_wp2
            go_round
            case rel =>
              refine ⟨k + 1, by omega, by go_num, fun j hjs hj => ?_⟩
              rcases Nat.lt_or_ge j k with h | h
              · exact HZ.out j hjs h
              · have : j = k := by omega
                subst this
                exact HO.out
            case measure => simp [intOf]; omega
          · have HO := Lib.hid (nameB_bad hlt (okC_no (c := (s[k].toNat : Int)) (by omega)))
            go_wp2
            go_ret
            exact ⟨ret_bool HO.out.symm, rfl⟩
        · go_wp2
          go_ret
          exact ⟨ret_bool (nameB_good hl1 hl2 HL.out (fun j hj => HZ.out j hj (by omega))).symm, rfl⟩
    · have HN := Lib.hid (nameB_first h0 (lowC_no hc0))
      have hor : (s[0].toNat : Int) < 97 ∨ (122 : Int) < (s[0].toNat : Int) := by omega
      clear hc0
      rcases hor with h1 | h1
      all_goals
        go_enter Tryd.func25, Tryd.ntmps25
        go_wp2
        go_ret
        exact ⟨ret_bool HN.out.symm, rfl⟩
  · have HN := Lib.hid (nameB_len hl)
    by_cases h0 : 0 < s.size
    · have h16 : (16 : Int) < (s.size : Int) := by omega
      have hne := ne_empty h0
      have e0 : ((s.size : Int) == 0) = false := by rw [beq_eq_false_iff_ne]; omega
      clear hl
      go_enter Tryd.func25, Tryd.ntmps25
      go_wp2
      go_ret
      exact ⟨ret_bool HN.out.symm, rfl⟩
    · have e0 : s = ByteArray.empty := ByteArray.size_eq_zero_iff.1 (by omega)
      subst e0
      clear hl
      go_enter Tryd.func25, Tryd.ntmps25
      go_wp2
      go_ret
      exact ⟨ret_bool HN.out.symm, rfl⟩
theorem byte_cases' (c : Int) : (c < 48 ∧ (c != 95) = true ∧ decide (97 ≤ c) = false ∧ decide (48 ≤ c) = false) ∨ (48 ≤ c ∧ c ≤ 57 ∧ (c != 95) = true ∧ decide (97 ≤ c) = false ∧ decide (48 ≤ c) = true ∧ decide (c ≤ 57) = true) ∨
    (58 ≤ c ∧ c ≤ 94 ∧ (c != 95) = true ∧ decide (97 ≤ c) = false ∧ decide (48 ≤ c) = true ∧ decide (c ≤ 57) = false) ∨ (95 ≤ c ∧ c ≤ 95 ∧ (c != 95) = false ∧ decide (97 ≤ c) = false ∧ decide (48 ≤ c) = true ∧ decide (c ≤ 57) = false) ∨
    (96 ≤ c ∧ c ≤ 96 ∧ (c != 95) = true ∧ decide (97 ≤ c) = false ∧ decide (48 ≤ c) = true ∧ decide (c ≤ 57) = false) ∨
    (97 ≤ c ∧ c ≤ 122 ∧ (c != 95) = true ∧ decide (97 ≤ c) = true ∧ decide (c ≤ 122) = true) ∨ (122 < c ∧ (c != 95) = true ∧ decide (97 ≤ c) = true ∧ decide (c ≤ 122) = false ∧ decide (48 ≤ c) = true ∧ decide (c ≤ 57) = false) := by
  by_cases h : c = 95
  · subst h; simp
  · have hb : (c != 95) = true := by simpa using h
    simp only [hb, decide_eq_true_eq, decide_eq_false_iff_not]
    simp
    omega

set_option maxHeartbeats 1000000 in
theorem risName_any (s : ByteArray) (w : World) (hs : (s.size : Int) ≤ 9223372036854775807) :
    Calls Tryd.prog 26 #[.string s] w fun e w' => e = .returned (.bool (nameB s)) ∧ w = w' := by
  by_cases hl : 1 ≤ s.size ∧ s.size ≤ 16
  · obtain ⟨hl1, hl2⟩ := hl
    have h0 : 0 < s.size := hl1
    have hne := ne_empty h0
    have e0 : ((s.size : Int) == 0) = false := by rw [beq_eq_false_iff_ne]; omega
    by_cases hc0 : (97 : Int) ≤ (s[0].toNat : Int) ∧ (s[0].toNat : Int) ≤ 122
    · obtain ⟨hc1, hc2⟩ := hc0
      have hlow : lowC (s[0].toNat : Int) = true := by simp [lowC, hc1, hc2]
      have HL := Lib.hid hlow
      clear hlow
      go_enter Tryd.func26, Tryd.ntmps26
      go_wp2
      go_loop [3, 4] (fun i _ => ∃ k : Nat, k ≤ s.size ∧ i = .int .i64 k ∧ ∀ j (hj : j < s.size), j < k → okC (s[j].toNat : Int) = true) (fun i _ => s.size - (intOf i).toNat)
      case atStart => exact ⟨0, by omega, rfl, fun j _ hj => by omega⟩
      case round =>
        obtain ⟨k, hk, rfl, hz⟩ := hrel
        have HZ := Lib.hid hz
        clear hz
        by_cases hlt : k < s.size
        · rcases byte_cases' (s[k].toNat : Int) with ⟨h1, hb, d1, d2⟩ | ⟨h1, h2, hb, d1, d2, d3⟩ | ⟨h1, h2, hb, d1, d2, d3⟩ | ⟨h1, h2, hb, d1, d2, d3⟩ | ⟨h1, h2, hb, d1, d2, d3⟩ | ⟨h1, h2, hb, d1, d2⟩ | ⟨h1, hb, d1, d2, d3, d4⟩
          · have HO := Lib.hid (nameB_bad hlt (okC_no (c := (s[k].toNat : Int)) (by omega)))
            go_wp2
            go_ret
            exact ⟨ret_bool HO.out.symm, rfl⟩
          · have HO := Lib.hid (okC_yes (c := (s[k].toNat : Int)) (by omega))
            go_wp2
            go_round
            case rel =>
              refine ⟨k + 1, by omega, by go_num, fun j hjs hj => ?_⟩
              rcases Nat.lt_or_ge j k with h | h
              · exact HZ.out j hjs h
              · have : j = k := by omega
                subst this
                exact HO.out
            case measure => simp [intOf]; omega
          · have HO := Lib.hid (nameB_bad hlt (okC_no (c := (s[k].toNat : Int)) (by omega)))
            go_wp2
            go_ret
            exact ⟨ret_bool HO.out.symm, rfl⟩
          · have HO := Lib.hid (okC_yes (c := (s[k].toNat : Int)) (by omega))
            go_wp2
            go_round
            case rel =>
              refine ⟨k + 1, by omega, by go_num, fun j hjs hj => ?_⟩
              rcases Nat.lt_or_ge j k with h | h
              · exact HZ.out j hjs h
              · have : j = k := by omega
                subst this
                exact HO.out
            case measure => simp [intOf]; omega
          · have HO := Lib.hid (nameB_bad hlt (okC_no (c := (s[k].toNat : Int)) (by omega)))
            go_wp2
            go_ret
            exact ⟨ret_bool HO.out.symm, rfl⟩
          · have HO := Lib.hid (okC_yes (c := (s[k].toNat : Int)) (by omega))
            go_wp2
            go_round
            case rel =>
              refine ⟨k + 1, by omega, by go_num, fun j hjs hj => ?_⟩
              rcases Nat.lt_or_ge j k with h | h
              · exact HZ.out j hjs h
              · have : j = k := by omega
                subst this
                exact HO.out
            case measure => simp [intOf]; omega
          · have HO := Lib.hid (nameB_bad hlt (okC_no (c := (s[k].toNat : Int)) (by omega)))
            go_wp2
            go_ret
            exact ⟨ret_bool HO.out.symm, rfl⟩
        · go_wp2
          go_ret
          exact ⟨ret_bool (nameB_good hl1 hl2 HL.out (fun j hj => HZ.out j hj (by omega))).symm, rfl⟩
    · have HN := Lib.hid (nameB_first h0 (lowC_no hc0))
      have hor : (s[0].toNat : Int) < 97 ∨ (122 : Int) < (s[0].toNat : Int) := by omega
      clear hc0
      rcases hor with h1 | h1
      all_goals
        go_enter Tryd.func26, Tryd.ntmps26
        go_wp2
        go_ret
        exact ⟨ret_bool HN.out.symm, rfl⟩
  · have HN := Lib.hid (nameB_len hl)
    by_cases h0 : 0 < s.size
    · have h16 : (16 : Int) < (s.size : Int) := by omega
      have hne := ne_empty h0
      have e0 : ((s.size : Int) == 0) = false := by rw [beq_eq_false_iff_ne]; omega
      clear hl
      go_enter Tryd.func26, Tryd.ntmps26
      go_wp2
      go_ret
      exact ⟨ret_bool HN.out.symm, rfl⟩
    · have e0 : s = ByteArray.empty := ByteArray.size_eq_zero_iff.1 (by omega)
      subst e0
      clear hl
      go_enter Tryd.func26, Tryd.ntmps26
      go_wp2
      go_ret
      exact ⟨ret_bool HN.out.symm, rfl⟩
end

section
open Go Go.RowKit Go.Shelf
attribute [local go_sem] Oper.semAt_some

/-- A unit: its sign and its factor, as Go has them. -/
structure Un where
  sign : ByteArray
  factor : Int
  hs : (sign.size : Int) ≤ 9223372036854775807
  hf : Bd factor
def unV (u : Un) : List Value := [.string u.sign, .int .i64 u.factor]
def unitsV (us : List Un) : List Value := us.flatMap unV
theorem unitsV_length (us : List Un) : (unitsV us).length = us.length * 2 := by
  induction us with
  | nil => rfl
  | cons u us ih => simp only [unitsV, List.flatMap_cons, List.length_append] at ih ⊢; rw [ih]; simp [unV]; omega
theorem unitsV_get {us : List Un} {k : Nat} (hk : k < us.length) : (unitsV us)[k * 2]? = some (.string us[k].sign) ∧ (unitsV us)[k * 2 + 1]? = some (.int .i64 us[k].factor) := by
  induction us generalizing k with
  | nil => simp at hk
  | cons u us ih =>
    have e : unitsV (u :: us) = .string u.sign :: .int .i64 u.factor :: unitsV us := rfl
    cases k with
    | zero => rw [e]; simp
    | succ k =>
      have := ih (k := k) (by simpa using hk)
      rw [e, show (k + 1) * 2 = k * 2 + 1 + 1 from by omega]
      simpa using this

/-- What is yielded: a unit in the allowed range, and its value. -/
structure UV where
  u : Un
  v : Int
  h1 : 1 ≤ u.factor ∧ u.factor ≤ 60
  h2 : 1 ≤ v ∧ v ≤ 1099511627776
def uvV (x : UV) : Array Value := #[.agg #[.string x.u.sign, .int .i64 x.u.factor], .int .i64 x.v]
theorem mul_pos1 {a b : Int} (h1 : 1 ≤ a) (h2 : 1 ≤ b) : 1 ≤ a * b := by
  have := Int.mul_pos (show 0 < a by omega) (show 0 < b by omega); omega
/-- All that is yielded from a value on. -/
def yl : List Un → (v : Int) → 1 ≤ v → List UV
  | [], _, _ => []
  | u :: us, v, hv =>
    if h : 1 ≤ u.factor ∧ u.factor ≤ 60 then
      if h' : v * u.factor ≤ 1099511627776 then ⟨u, v * u.factor, h, mul_pos1 hv h.1, h'⟩ :: yl us (v * u.factor) (mul_pos1 hv h.1) else []
    else []
theorem yl_go {u : Un} {us : List Un} {v : Int} {hv : 1 ≤ v} (h : 1 ≤ u.factor ∧ u.factor ≤ 60) (h' : v * u.factor ≤ 1099511627776) :
    yl (u :: us) v hv = ⟨u, v * u.factor, h, mul_pos1 hv h.1, h'⟩ :: yl us (v * u.factor) (mul_pos1 hv h.1) := by
  rw [yl, dif_pos h, dif_pos h']
theorem yl_big {u : Un} {us : List Un} {v : Int} {hv : 1 ≤ v} (h' : ¬ v * u.factor ≤ 1099511627776) : yl (u :: us) v hv = [] := by
  rw [yl]
  by_cases h : 1 ≤ u.factor ∧ u.factor ≤ 60
  · rw [dif_pos h, dif_neg h']
  · rw [dif_neg h]
theorem yl_out {u : Un} {us : List Un} {v : Int} {hv : 1 ≤ v} (h : ¬ (1 ≤ u.factor ∧ u.factor ≤ 60)) : yl (u :: us) v hv = [] := by
  rw [yl, dif_neg h]
theorem yl_length (us : List Un) (v : Int) (hv : 1 ≤ v) : (yl us v hv).length ≤ us.length := by
  induction us generalizing v with
  | nil => simp [yl]
  | cons u us ih =>
    unfold yl
    split
    · split
      · simp only [List.length_cons]; have := ih (v * u.factor) (mul_pos1 hv (by rename_i h _; exact h.1)); omega
      · simp
    · simp

set_option maxRecDepth 100000 in
set_option maxHeartbeats 1000000 in
/-- The closure, for every loop body that keeps what lay below n₀. -/
theorem units1_in (F : Fence) (n : Nat) (hF : F.fn 123) (hro : F.round = none) (hn : 1 ≤ n) (l Bl n₀ : Nat) (sv : Value) (us : List Un) (hlen : us.length ≤ 4398046511104) (J Jx : List UV → World → Prop)
    (hY : ∀ pre x W, J pre W → pre.length < us.length → YieldAt F (n - 1) Tryd.prog l (uvV x) W fun e W' =>
      (e = .returned (.bool true) ∧ J (pre ++ [x]) W' ∧ Below n₀ W W') ∨ (e = .returned (.bool false) ∧ Jx (pre ++ [x]) W'))
    (W : World) (hn₀ : n₀ ≤ W.heap.size) (hJa : ∀ pre A o, J pre A → J pre (World.alloc A o))
    (c1 : W.cell? ⟨Bl, 1, none⟩ = some sv) (hbl : ∀ W', Below n₀ W W' → Sl W' 2 sv (unitsV us)) (h0 : J [] W) :
    CallsIn F n Tryd.prog 123 #[.func (.yield l) #[] #[], .pointer (some ⟨Bl, 0, none⟩)] W fun e W' => (∃ v, e = .returned v) ∧
      ((∃ ys, ys = yl us 1 (by decide) ∧ J ys W') ∨ (∃ pre, pre <+: yl us 1 (by decide) ∧ Jx pre W')) := by
  have hsl := hbl W (Below.refl _ _)
  obtain ⟨A, m, c, rfl, hm, hmc, hcm, hcell⟩ := hsl.open2 (by decide)
  clear hsl
  have hml : m = us.length := by rw [unitsV_length] at hm; omega
  subst hml
  refine callsIn_of_wp Tryd.func123 rfl hF ?_ hro
  simp only [Tryd.ntmps123, List.size_toArray, List.length_cons, List.length_nil, Nat.reduceAdd, Nat.reduceSub, Array.replicate_succ, Array.replicate_zero, List.push_toArray, List.append_toArray, List.nil_append, List.cons_append]
  gi_wp2
  gi_loopw [3, 9] (fun t i wr => ∃ (k : Nat) (v : Int) (hv : 1 ≤ v) (pre : List UV), k ≤ us.length ∧ i = .int .i64 k ∧ t = .int .i64 v ∧ v ≤ 1099511627776 ∧ pre.length = k ∧ yl us 1 (by decide) = pre ++ yl (us.drop k) v hv ∧ J pre wr ∧ Below n₀ W wr) (fun _ i _ => us.length - (intOf i).toNat)
  case atStart => exact ⟨0, 1, by decide, [], by omega, rfl, rfl, by decide, rfl, rfl, h0, Below.refl _ _⟩
  case round =>
    obtain ⟨k, v, hv, pre, hk, rfl, rfl, hvm, hpl, hyl, hJs, hnx⟩ := hrel
    have HB := Lib.hid hbl
    have HJa := Lib.hid hJa
    have HY := Lib.hid hY
    have HL := Lib.hid hyl
    have HP := Lib.hid hpl
    clear hbl hJa hY hyl hpl
    by_cases hlt : k < us.length
    · clear hcell
      have hs := HB.out wr hnx
      obtain ⟨A', n', c', e, _, _, _, hcl⟩ := hs.open2 (by decide)
      cases e
      obtain ⟨b, o, e, hb, hce⟩ := hcl (by omega)
      cases e
      obtain ⟨g0, g1⟩ := unitsV_get hlt
      have e0 := hce _ _ g0
      have e1 := hce _ _ g1
      rw [← Nat.add_assoc] at e1
      have HD := Lib.hid (List.drop_eq_getElem_cons hlt)
      clear hce g0 g1 hs hcl
      generalize us[k] = u at *
      have u0 := u.hf.1
      have u1 := u.hf.2
      by_cases hf : 1 ≤ u.factor ∧ u.factor ≤ 60
      · obtain ⟨hf1, hf2⟩ := hf
        have hm1 := (mul_bd (a := v) (b := u.factor) (x := 1099511627776) (y := 60) (by omega) hvm (by omega) hf2 (by decide))
        obtain ⟨hm1, hm2⟩ := hm1
        have d1 : decide (u.factor < 1) = false := by simp; omega
        have d2 : decide (60 < u.factor) = false := by simp; omega
        by_cases hmm : v * u.factor ≤ 1099511627776
        · have HX := Lib.hid (show yl us 1 (by decide) = (pre ++ [⟨u, v * u.factor, ⟨hf1, hf2⟩, mul_pos1 hv hf1, hmm⟩]) ++ yl (us.drop (k + 1)) (v * u.factor) (mul_pos1 hv hf1) by
            rw [HL.out, HD.out, yl_go ⟨hf1, hf2⟩ hmm]; simp)
          obtain ⟨fn, tmps, assign, body, hy, hR⟩ := HY.out pre ⟨u, v * u.factor, ⟨hf1, hf2⟩, mul_pos1 hv hf1, hmm⟩ (wr.alloc (.cells #[.string u.sign, .int .i64 u.factor] 78)) (HJa.out _ _ _ hJs) (by rw [HP.out]; exact hlt)
          dsimp only [uvV] at hy
          have d3 : decide (1099511627776 < v * u.factor) = false := by simp; omega
          have HR := Lib.hid hR
          clear hR
          gi_wp2
          refine HR.out.mono ?_
          rintro e W3 (⟨rfl, hJ3, hk3⟩ | ⟨rfl, hJx3⟩)
          · gi_wp2
            go_roundw
            case rel => exact ⟨k + 1, v * u.factor, mul_pos1 hv hf1, _, by omega, by go_num, rfl, hmm, by simp [HP.out], HX.out, hJ3, (hnx.alloc (by have := hnx.size; omega) _).trans hk3⟩
            case measure => simp [intOf]; omega
          · gi_wp2
            refine bodyPost_ret (results_none rfl _ _ _) rfl ?_
            exact ⟨⟨_, rfl⟩, .inr ⟨_, ⟨_, HX.out.symm⟩, hJx3⟩⟩
        · have HX := Lib.hid (show yl us 1 (by decide) = pre by rw [HL.out, HD.out, yl_big hmm]; simp)
          have d3 : decide (1099511627776 < v * u.factor) = true := by simp; omega
          gi_wp2
          refine ⟨fun _ h => (by cases h), ?_⟩
          gi_wp2
          refine bodyPost_ret (results_none rfl _ _ _) rfl ?_
          exact ⟨⟨_, rfl⟩, .inl ⟨_, HX.out.symm, HJa.out _ _ _ hJs⟩⟩
      · have HX := Lib.hid (show yl us 1 (by decide) = pre by rw [HL.out, HD.out, yl_out hf]; simp)
        have hor : u.factor < 1 ∨ 60 < u.factor := by omega
        clear hf
        rcases hor with hf | hf
        · have d1 : decide (u.factor < 1) = true := by simp; omega
          gi_wp2
          refine bodyPost_ret (results_none rfl _ _ _) rfl ?_
          exact ⟨⟨_, rfl⟩, .inl ⟨_, HX.out.symm, HJa.out _ _ _ hJs⟩⟩
        · have d1 : decide (u.factor < 1) = false := by simp; omega
          have d2 : decide (60 < u.factor) = true := by simp; omega
          gi_wp2
          refine bodyPost_ret (results_none rfl _ _ _) rfl ?_
          exact ⟨⟨_, rfl⟩, .inl ⟨_, HX.out.symm, HJa.out _ _ _ hJs⟩⟩
    · have HX := Lib.hid (show yl us 1 (by decide) = pre by rw [HL.out, List.drop_of_length_le (by omega)]; simp [yl])
      clear hcell
      gi_wp2
      go_end0
      exact ⟨⟨_, rfl⟩, .inl ⟨_, HX.out.symm, hJs⟩⟩

/-- A ladder's value: its name, its units. -/
def LadV (w : World) (v : Value) (nm : ByteArray) (us : List Un) : Prop := ∃ A n c, v = .agg #[.string nm, .slice A n c] ∧ Sl w 2 (.slice A n c) (unitsV us)
theorem LadV.below {w w' : World} {v : Value} {nm : ByteArray} {us : List Un} (h : LadV w v nm us) (hb : Below w.heap.size w w') : LadV w' v nm us := by
  obtain ⟨A, n, c, rfl, h⟩ := h
  exact ⟨A, n, c, rfl, h.below hb⟩

set_option maxHeartbeats 400000 in
theorem units_any (nm : ByteArray) (A : Option Addr) (n c : Nat) (w : World) :
    Calls Tryd.prog 94 #[.agg #[.string nm, .slice A n c]] w fun e w' => e = .returned (.func (.func 123) #[] #[.pointer (some ⟨w.heap.size, 0, none⟩)]) ∧ w' = w.alloc (.cells #[.string nm, .slice A n c] 33) := by
  have hmf : ∀ (fn : Fn) (first cap : Array Value) (w : World), (Instr.makeFunc fn first cap).run Tryd.prog w = .ok (.func fn first cap) w := fun _ _ _ _ => rfl
  go_enter Tryd.func94, Tryd.ntmps94
  go_wp2
  go_ret
  exact ⟨rfl, rfl⟩

/-- What units hands back stops, at whatever keeps what lay below n₀. -/
theorem units_stops (n Bl n₀ : Nat) (hn : 1 ≤ n) (nm : ByteArray) (A : Option Addr) (m c : Nat) (us : List Un) (hlen : us.length ≤ 4398046511104) (w : World) (hBl : Bl < w.heap.size) (hn₀ : n₀ ≤ w.heap.size)
    (hb : w.heap[Bl]? = some (.cells #[.string nm, .slice A m c] 33 (0, 0))) (hsl : ∀ w', Below n₀ w w' → Sl w' 2 (.slice A m c) (unitsV us)) :
    SeqStopsK Fence.wide n Tryd.prog 123 #[.pointer (some ⟨Bl, 0, none⟩)] uvV (Below n₀) (fun ys => ys = yl us 1 (by decide)) (fun pre => pre <+: yl us 1 (by decide)) us.length w := fun l J Jx W hW hJ _ hY h0 => by
  have b1 : W.heap[Bl]? = some (.cells #[.string nm, .slice A m c] 33 (0, 0)) := (hW.block _ hBl).trans hb
  refine units1_in Fence.wide n trivial rfl hn l Bl n₀ (.slice A m c) us hlen J Jx hY W (by have := hW.size; omega) ?_ (cell_of_row W _ 1 _ _ _ b1) ?_ h0
  · exact fun pre X o hj => hJ pre X _ none hj (World.grownBy_alloc X o none) (fun r e => by cases e)
  · exact fun W' hW' => hsl _ ((hW.mono hn₀).trans hW')
end

section
open Go Go.RowKit Go.Shelf
attribute [local go_sem] Oper.semAt_some

theorem bytes_beq (a b : ByteArray) : (a == b) = decide (a = b) := by
  cases a with | mk a => cases b with | mk b =>
  show (a == b) = _
  by_cases h : a = b
  · subst h; simp
  · simp [h]
instance : LawfulBEq ByteArray where
  eq_of_beq h := by rw [bytes_beq] at h; exact of_decide_eq_true h
  rfl := by intro a; rw [bytes_beq]; exact decide_eq_true rfl
theorem bytes_toList_beq (a b : ByteArray) : (a.toList == b.toList) = decide (a = b) := by rw [← beq_toListBytes, bytes_beq]

abbrev Kv := ByteArray × Value
def getM (m : List Kv) (k : ByteArray) : Option Value := (m.find? (fun p => decide (k = p.1))).map (·.2)
theorem getM_nil (k : ByteArray) : getM [] k = none := rfl
theorem getM_append_new (m : List Kv) (k k' : ByteArray) (v : Value) (h : getM m k' = none) : getM (m ++ [(k', v)]) k = if k = k' then some v else getM m k := by
  unfold getM at *
  rw [List.find?_append]
  by_cases e : k = k'
  · subst e
    have : m.find? (fun p => decide (k = p.1)) = none := by simpa using h
    simp [this]
  · cases hf : m.find? (fun p => decide (k = p.1)) <;> simp [e]
/-- Block b is a map that holds m. -/
def MapS (w : World) (b : Nat) (m : List Kv) : Prop :=
  ∃ es c, w.heap[b]? = some (.map es c) ∧ es.toList.map (fun e => (e.key, e.val)) = m.map (fun p => (Value.string p.1, p.2))
theorem MapS.lt {w : World} {b : Nat} {m : List Kv} (h : MapS w b m) : b < w.heap.size := by
  obtain ⟨es, c, h, _⟩ := h; exact (Array.getElem?_eq_some_iff.1 h).1
theorem MapS.same {w w' : World} {b : Nat} {m : List Kv} (h : MapS w b m) (e : w'.heap[b]? = w.heap[b]?) : MapS w' b m := by
  obtain ⟨es, c, h, h'⟩ := h; exact ⟨es, c, e.trans h, h'⟩
theorem MapS.below {w w' : World} {b n : Nat} {m : List Kv} (h : MapS w b m) (hn : b < n) (hb : Below n w w') : MapS w' b m := h.same (hb.block _ hn)
theorem MapS.kept {w w' : World} {row : Option Nat} {b : Nat} {m : List Kv} (h : MapS w b m) (hg : w.grownBy w' row) (hne : some b ≠ row) : MapS w' b m := h.same (hg.block b h.lt hne)
theorem MapS.alloc {w : World} {b : Nat} {m : List Kv} (h : MapS w b m) (o : Obj) : MapS (w.alloc o) b m := h.kept (World.grownBy_alloc w o none) (by simp)
theorem MapS.drew {w : World} {b : Nat} {m : List Kv} (h : MapS w b m) : MapS w.drew b m := h
theorem MapS.drewN {w : World} {b n : Nat} {m : List Kv} (h : MapS w b m) : MapS (w.drewN n) b m := by
  refine h.same ?_; simp
theorem MapS.new (w : World) : MapS (w.alloc (.map #[] 0)) w.heap.size [] := ⟨#[], 0, World.alloc_heap_new w _, rfl⟩
theorem MapS.setCell {w : World} {b : Nat} {m : List Kv} (h : MapS w b m) (p : Addr) (v : Value) : MapS (w.setCell p v) b m := by
  obtain ⟨es, c, hh, he⟩ := h
  refine ⟨es, c, ?_, he⟩
  by_cases e : p.block = b
  · simp only [World.setCell, Array.getElem?_modify]; rw [if_pos e, hh]; rfl
  · simp only [World.setCell, Array.getElem?_modify]; rw [if_neg e, hh]
theorem findNow_str (k : ByteArray) (m : List Kv) : ∀ (es : List MapEntry) (i : Nat), es.map (fun e => (e.key, e.val)) = m.map (fun p => (Value.string p.1, p.2)) →
    ∃ o, Instr.findNow .string (.string k) es i = some o ∧ o.map (·.2) = getM m k := by
  induction m with
  | nil => intro es i h; have : es = [] := by simpa using h
           subst this; exact ⟨none, rfl, rfl⟩
  | cons p m ih =>
    intro es i h
    cases es with
    | nil => simp at h
    | cons e es =>
      simp only [List.map_cons, List.cons.injEq, Prod.mk.injEq] at h
      obtain ⟨⟨h1, h2⟩, h3⟩ := h
      unfold Instr.findNow
      rw [h1]
      simp only [Instr.sameNow, bytes_beq]
      by_cases e' : k = p.1
      · refine ⟨some (i, e.val), by simp [e'], ?_⟩
        simp [getM, h2, e']
      · obtain ⟨o, ho, ho'⟩ := ih es (i + 1) h3
        refine ⟨o, by simp [e', ho], ?_⟩
        rw [ho']; unfold getM; rw [List.find?_cons, decide_eq_false e']
theorem check_str {P : Program} {w : World} {kt : TypeId} (hk : P.underlying kt = some .string) (em : Bool) (k : ByteArray) : (Instr.checkKey em 10000 kt (.string k)).run P w = .ok () w := by
  unfold Instr.checkKey
  simp [run_underlying hk, Result.andThen]
theorem MapS.lookup {P : Program} {w : World} {b : Nat} {m : List Kv} (h : MapS w b m) {t kt et : TypeId} (ht : P.underlying t = some (.map kt et)) (hk : P.underlying kt = some .string) {z : Value} (hz : (zeroValue et).run P w = .ok z w) (k : ByteArray) (c : Bool) :
    (Instr.lookup t (.map (some b)) (.string k) c).run P w = .ok (match getM m k with | some v => if c then .tuple #[v, .bool true] else v | none => if c then .tuple #[z, .bool false] else z) w := by
  obtain ⟨es, ck, hb, he⟩ := h
  obtain ⟨o, ho, ho'⟩ := findNow_str k m es.toList 0 he
  have hck := fun em => check_str (w := w) hk em k
  rw [← ho']
  cases o with
  | none => simp [Instr.lookup, run_underlying ht, run_underlying hk, MapKept.run_getObj_map hb, hck, Instr.findKey, ho, hz, Result.andThen]
  | some x => simp [Instr.lookup, run_underlying ht, run_underlying hk, MapKept.run_getObj_map hb, hck, Instr.findKey, ho, Result.andThen]
/-- The world behind a store under a new key. -/
def mapPut (w : World) (b : Nat) (k : ByteArray) (v : Value) : World :=
  match w.heap[b]? with
  | some (.map es c) => ChangeMaps.setBlock w b (.map (es.push { key := .string k, val := v, born := c }) (c + 1))
  | _ => w
theorem MapS.update {P : Program} {w : World} {b : Nat} {m : List Kv} (h : MapS w b m) {t kt et : TypeId} (ht : P.underlying t = some (.map kt et)) (hk : P.underlying kt = some .string) (k : ByteArray) (v : Value) (hnew : getM m k = none) :
    (Instr.mapUpdate t (.map (some b)) (.string k) v).run P w = .ok () (mapPut w b k v) := by
  obtain ⟨es, ck, hb, he⟩ := h
  obtain ⟨o, ho, ho'⟩ := findNow_str k m es.toList 0 he
  have hck := fun em => check_str (w := w) hk em k
  have : o = none := by rw [hnew] at ho'; simpa using ho'
  subst this
  simp [Instr.mapUpdate, run_underlying ht, run_underlying hk, MapKept.run_getObj_map hb, hck, Instr.findKey, ho, Result.andThen, mapPut, hb, MapKept.run_setObj_map _ hb, ChangeMaps.setBlock]
theorem MapS.put_grown {w : World} {b : Nat} {m : List Kv} (h : MapS w b m) (k : ByteArray) (v : Value) : w.grownBy (mapPut w b k v) (some b) := by
  obtain ⟨es, ck, hb, he⟩ := h
  simp only [mapPut, hb]
  exact ⟨rfl, rfl, rfl, by simp [ChangeMaps.setBlock], fun i _ hi => ChangeMaps.heap_setBlock_other hb _ (fun e => hi (by rw [e]))⟩
theorem MapS.put {w : World} {b : Nat} {m : List Kv} (h : MapS w b m) (k : ByteArray) (v : Value) : MapS (mapPut w b k v) b (m ++ [(k, v)]) := by
  obtain ⟨es, ck, hb, he⟩ := h
  simp only [mapPut, hb]
  exact ⟨_, _, ChangeMaps.heap_setBlock_same hb _, by simp [he]⟩
theorem MapS.size {w : World} {b : Nat} {m : List Kv} (h : MapS w b m) : ∃ es c, w.heap[b]? = some (.map es c) ∧ es.size = m.length := by
  obtain ⟨es, ck, hb, he⟩ := h
  refine ⟨es, ck, hb, ?_⟩
  have := congrArg List.length he
  simpa using this
theorem MapS.put_below {w0 w : World} {b n : Nat} {m : List Kv} (h : MapS w b m) (k : ByteArray) (v : Value) (hB : Below n w0 w) (hn : n ≤ w0.heap.size) (hb : n ≤ b) : Below n w0 (mapPut w b k v) :=
  hB.grown (h.put_grown k v) (Nat.le_trans hn hB.size) (fun j e => by cases e; exact hb)
end

section
open Go Go.RowKit Go.Shelf
attribute [local go_sem] Oper.semAt_some

def signs (l : List UV) : List ByteArray := l.map (fun y => y.u.sign)
theorem signs_snoc (l : List UV) (x : UV) : signs (l ++ [x]) = signs l ++ [x.u.sign] := by simp [signs]
theorem bool_ne {a b : Bool} (h : ¬ a = b) : a = !b := by cases a <;> cases b <;> simp at h ⊢
theorem nat_beq (a b : Nat) : ((a : Int) == (b : Int)) = decide (a = b) := by by_cases h : a = b <;> simp [h]; omega
/-- What Check asks of a unit behind those of pre. -/
def okR (pre : List UV) (x : UV) : Bool := nameB x.u.sign && !decide (x.u.sign ∈ signs pre) && (decide (x.u.factor = 1) == decide (pre.length = 0))
def okGo (s : List UV) : List UV → Bool
  | [] => true
  | x :: l => okR s x && okGo (s ++ [x]) l
theorem okGo_append (s l t : List UV) : okGo s (l ++ t) = (okGo s l && okGo (s ++ l) t) := by
  induction l generalizing s with
  | nil => simp [okGo]
  | cons x l ih => simp [okGo, ih, Bool.and_assoc]
theorem okGo_snoc (l : List UV) (x : UV) : okGo [] (l ++ [x]) = (okGo [] l && okR l x) := by simp [okGo_append, okGo]
def checkB (nm : ByteArray) (us : List Un) : Bool :=
  nameB nm && !decide (us.length = 0) && decide (us.length ≤ 12) && okGo [] (yl us 1 (by decide)) && decide ((yl us 1 (by decide)).length = us.length)
def checkF (nm : ByteArray) (us : List Un) : Int := if checkB nm us then 0 else 10
def seenM (pre : List UV) : List Kv := pre.map (fun x => (x.u.sign, Value.bool true))
theorem getM_seen (pre : List UV) (k : ByteArray) : getM (seenM pre) k = if k ∈ signs pre then some (.bool true) else none := by
  induction pre with
  | nil => rfl
  | cons x pre ih =>
    simp only [seenM, getM, signs, List.map_cons, List.find?_cons, List.mem_cons] at ih ⊢
    by_cases e : k = x.u.sign
    · simp [e]
    · rw [decide_eq_false e]
      simp only [e, false_or]
      exact ih

/-- Block B holds just these cells. -/
def Cel (W : World) (B : Nat) (t : TypeId) (vs : Array Value) : Prop := W.heap[B]? = some (.cells vs t (0, 0))
theorem Cel.lt {W : World} {B : Nat} {t : TypeId} {vs : Array Value} (h : Cel W B t vs) : B < W.heap.size := (Array.getElem?_eq_some_iff.1 h).1
theorem Cel.kept {W W' : World} {row : Option Nat} {B : Nat} {t : TypeId} {vs : Array Value} (h : Cel W B t vs) (hg : W.grownBy W' row) (hne : some B ≠ row) : Cel W' B t vs := (hg.block B h.lt hne).trans h
theorem Cel.alloc {W : World} {B : Nat} {t : TypeId} {vs : Array Value} (h : Cel W B t vs) (o : Obj) : Cel (W.alloc o) B t vs := h.kept (World.grownBy_alloc W o none) (by simp)
theorem Cel.new (W : World) (t : TypeId) (vs : Array Value) : Cel (W.alloc (.cells vs t)) W.heap.size t vs := World.alloc_heap_new W _
theorem Cel.below {W W' : World} {B n : Nat} {t : TypeId} {vs : Array Value} (h : Cel W B t vs) (hn : B < n) (hb : Below n W W') : Cel W' B t vs := (hb.block _ hn).trans h
theorem Cel.own {β : Type} (B : Nat) (t : TypeId) (f : β → Array Value) : Own (fun s W => Cel W B t (f s)) := fun s X Y row hs hg hrow =>
  hs.kept hg (fun e' => by obtain ⟨o, ho, hc⟩ := hrow B e'.symm; rw [show X.heap[B]? = _ from hs] at ho; cases ho; cases hc)
theorem Cel.other {W : World} {B : Nat} {t : TypeId} {vs : Array Value} (h : Cel W B t vs) {p : Addr} (hne : p.block ≠ B) (u : Value) : Cel (W.setCell p u) B t vs := by
  unfold Cel at *
  rw [← h]
  simp only [World.setCell, Array.getElem?_modify]; rw [if_neg hne]
theorem Cel.cell {W : World} {B : Nat} {t : TypeId} {vs : Array Value} (h : Cel W B t vs) (k : Nat) (v : Value) (hv : vs[k]? = some v) : W.cell? ⟨B, k, none⟩ = some v := by simp [World.cell?, show W.heap[B]? = _ from h, hv]
theorem Cel.frozen {W : World} {B : Nat} {t : TypeId} {vs : Array Value} (h : Cel W B t vs) (k : Nat) : W.frozen? ⟨B, k, none⟩ = false := by simp [World.frozen?, show W.heap[B]? = _ from h]
theorem Cel.set1 {W : World} {B : Nat} {t : TypeId} {v : Value} (v' : Value) (h : Cel W B t #[v]) : Cel (W.setCell ⟨B, 0, none⟩ v') B t #[v'] := Boxed.set (t := t) v' h
theorem MapS.ownFrom {β : Type} {n b : Nat} (hb : b < n) (f : β → List Kv) : OwnFrom n (fun s W => MapS W b (f s)) := fun _ _ _ _ hs hg hr =>
  hs.kept hg (fun e => by have := (hr _ e.symm).1; omega)

set_option maxRecDepth 100000 in
set_option maxHeartbeats 2000000 in
theorem check_loop (nm : ByteArray) (hnm : (nm.size : Int) ≤ 9223372036854775807) (A : Option Addr) (c : Nat) (us : List Un) (w : World) (hsl : Sl w 2 (.slice A us.length c) (unitsV us))
    (h1 : nameB nm = true) (h2 : 1 ≤ us.length) (h3 : us.length ≤ 12) :
    Calls Tryd.prog 31 #[.agg #[.string nm, .slice A us.length c]] w fun e w' => e = .returned (.int .i64 (checkF nm us)) ∧ Below w.heap.size w w' := by
  refine (callsIn_wide (n := 6)).1 ?_
  have hmm := @run_makeMap Tryd.prog
  have d2 : ((us.length : Int) == 0) = false := beq_eq_false_iff_ne.2 (by omega)
  have d3 : decide ((12 : Int) < us.length) = false := by simp; omega
  refine callsIn_of_wp_marks Tryd.func31 rfl trivial ?_ rfl
  simp only [Tryd.ntmps31, List.size_toArray, List.length_cons, List.length_nil, Nat.reduceAdd, Nat.reduceSub, Array.replicate_succ, Array.replicate_zero, List.push_toArray, List.append_toArray, List.nil_append, List.cons_append]
  gi_wp2_with (first | (refine ⟨trivial, ?_⟩; gi_at_call 25; refine (callsIn_wide.2 (isName_any nm _ hnm)).mono ?_; rintro e w' ⟨rfl, rfl⟩) | (refine ⟨trivial, ?_⟩; gi_at_call 94; refine (callsIn_wide.2 (units_any nm A us.length c _)).mono ?_; rintro e w' ⟨rfl, rfl⟩))
  have Y1 := ((((Cel.new w 33 #[.string nm, .slice A us.length c]).alloc (.cells #[.int .i64 0] 24)).alloc (.map #[] 0)).alloc (.cells #[.map (some (w.heap.size + 1 + 1))] 132)).alloc (.cells #[.string nm, .slice A us.length c] 33)
  have Y2 := (((Cel.new (w.alloc (.cells #[.string nm, .slice A us.length c] 33)) 24 #[.int .i64 0]).alloc (.map #[] 0)).alloc (.cells #[.map (some (w.heap.size + 1 + 1))] 132)).alloc (.cells #[.string nm, .slice A us.length c] 33)
  have Y3 := ((MapS.new ((w.alloc (.cells #[.string nm, .slice A us.length c] 33)).alloc (.cells #[.int .i64 0] 24))).alloc (.cells #[.map (some (w.heap.size + 1 + 1))] 132)).alloc (.cells #[.string nm, .slice A us.length c] 33)
  have Y4 := (Cel.new (((w.alloc (.cells #[.string nm, .slice A us.length c] 33)).alloc (.cells #[.int .i64 0] 24)).alloc (.map #[] 0)) 132 #[.map (some (w.heap.size + 1 + 1))]).alloc (.cells #[.string nm, .slice A us.length c] 33)
  have Y5 := Cel.new ((((w.alloc (.cells #[.string nm, .slice A us.length c] 33)).alloc (.cells #[.int .i64 0] 24)).alloc (.map #[] 0)).alloc (.cells #[.map (some (w.heap.size + 1 + 1))] 132)) 33 #[.string nm, .slice A us.length c]
  have hB0 : Below w.heap.size w (((((w.alloc (.cells #[.string nm, .slice A us.length c] 33)).alloc (.cells #[.int .i64 0] 24)).alloc (.map #[] 0)).alloc (.cells #[.map (some (w.heap.size + 1 + 1))] 132)).alloc (.cells #[.string nm, .slice A us.length c] 33)) := (((((Below.refl _ w).alloc (Nat.le_refl _) _).alloc (by simp) _).alloc (by simp; omega) _).alloc (by simp; omega) _).alloc (by simp; omega) _
  simp only [World.size_alloc] at Y2 Y3 Y4 Y5
  have hsz : (((((w.alloc (.cells #[.string nm, .slice A us.length c] 33)).alloc (.cells #[.int .i64 0] 24)).alloc (.map #[] 0)).alloc (.cells #[.map (some (w.heap.size + 1 + 1))] 132)).alloc (.cells #[.string nm, .slice A us.length c] 33)).heap.size = w.heap.size + 5 := by simp
  obtain ⟨W0, hW0⟩ : ∃ W0, (((((w.alloc (.cells #[.string nm, .slice A us.length c] 33)).alloc (.cells #[.int .i64 0] 24)).alloc (.map #[] 0)).alloc (.cells #[.map (some (w.heap.size + 1 + 1))] 132)).alloc (.cells #[.string nm, .slice A us.length c] 33)) = W0 := ⟨_, rfl⟩
  rw [hW0] at Y1 Y2 Y3 Y4 Y5 hB0 hsz ⊢
  clear hW0
  refine wpIn_rangeFunc_ownH (F := Fence.wide) (n := 6) (w := W0) rfl (by decide) (gf := 123) (lb := #[.pointer (some ⟨w.heap.size + 1 + 1 + 1 + 1, 0, none⟩)]) rfl trivial (enters_of Tryd.func123 (by kernel_rfl) rfl)
    (units_stops 5 (w.heap.size + 1 + 1 + 1 + 1) w.heap.size (by decide) nm A us.length c us (by omega) W0 (by omega) (by omega) Y5 (fun w' hw' => hsl.below (hB0.trans hw'))) belowK_t (belowK_b (by omega)) (Below.refl _ _) (fun _ => rfl)
    (fun pre W => ((((Cel W w.heap.size 33 #[.string nm, .slice A us.length c] ∧ Cel W (w.heap.size + 1) 24 #[.int .i64 0]) ∧ Cel W (w.heap.size + 1 + 1 + 1) 132 #[.map (some (w.heap.size + 1 + 1))]) ∧ MapS W (w.heap.size + 1 + 1) (seenM pre)) ∧ okGo [] pre = true) ∧ Below w.heap.size w W)
    (fun cd pre W => ((cd = .ret ∧ okGo [] pre = false) ∧ Cel W (w.heap.size + 1) 24 #[.int .i64 10]) ∧ Below w.heap.size w W)
    (OwnFrom.and (OwnFrom.and (OwnFrom.and (OwnFrom.and (OwnFrom.and (Own.from (Cel.own _ _ _) _) (Own.from (Cel.own _ _ _) _)) (Own.from (Cel.own _ _ _) _)) (MapS.ownFrom (by omega) _)) (ownFrom_pure _ _)) (ownFrom_below (Nat.le_refl _) (by omega)))
    (fun cd => OwnFrom.and (OwnFrom.and (ownFrom_pure _ _) (Own.from (Cel.own _ _ _) _)) (ownFrom_below (Nat.le_refl _) (by omega)))
    ⟨⟨⟨⟨⟨Y1, Y2⟩, Y4⟩, Y3⟩, rfl⟩, hB0⟩
    (fun x a' W => ∃ Bx, w.heap.size + 1 + 1 + 1 < Bx ∧ Cel W Bx 78 #[.string x.u.sign, .int .i64 x.u.factor] ∧ a' = Act.mk #[Value.agg #[Value.string nm, Value.slice A us.length c],
          Value.pointer (some { block := w.heap.size, off := 0 }),
          Value.pointer (some { block := w.heap.size + 1, off := 0 }),
          Value.pointer (some { block := w.heap.size + 1 + 1 + 1, off := 0 }), Value.pointer (some { block := Bx, off := 0 }),
          Value.pointer (some { block := w.heap.size, off := 0 }), Value.string nm, Value.bool true, Value.bool false,
          Value.bool false, Value.pointer (some { block := w.heap.size, off := 1 }), Value.slice A us.length c,
          Value.int IntKind.i64 ↑us.length, Value.bool false, Value.bool false, Value.bool false,
          Value.pointer (some { block := w.heap.size, off := 1 }), Value.slice A us.length c,
          Value.int IntKind.i64 ↑us.length, Value.bool false, Value.bool false, Value.map (some (w.heap.size + 1 + 1)),
          Value.agg #[Value.string nm, Value.slice A us.length c],
          Value.func (Fn.func 123) #[] #[Value.pointer (some { block := w.heap.size + 1 + 1 + 1 + 1, off := 0 })],
          .agg #[.string x.u.sign, .int .i64 x.u.factor], .int .i64 x.v, undef, undef, undef, undef, undef, undef, undef, undef, undef, undef, undef, undef, undef,
          undef, undef, undef, undef, undef, undef, undef, undef, undef, undef, undef, undef, undef, undef, undef,
          undef] [])
    (fun x a' _ X Y row hs hg hr => by obtain ⟨Bx, h1, h2, h3⟩ := hs; exact ⟨Bx, h1, Cel.own Bx _ (fun (_ : Unit) => #[Value.string x.u.sign, .int .i64 x.u.factor]) () X Y row h2 hg (fun r e => (hr r e).2), h3⟩)
    ?assign ?body ?done ?stop
  case assign =>
    rintro l pre x W K ⟨⟨⟨⟨⟨y1, y2⟩, y3⟩, y4⟩, y5⟩, hB1⟩ hK
    dsimp only [uvV]
    gi_wp2
    exact hK _ _ ((KeepsOthers.alloc _ _).from _) ((Below.refl _ W).alloc hB1.size _) ⟨⟨⟨⟨⟨y1.alloc _, y2.alloc _⟩, y3.alloc _⟩, y4.alloc _⟩, y5⟩, hB1.alloc hB1.size _⟩ ⟨W.heap.size, y3.lt, Cel.new W _ _, rfl⟩
  case body =>
    rintro l pre x a' W hl ⟨r, hr⟩ ⟨⟨⟨⟨⟨y1, y2⟩, y3⟩, y4⟩, y5⟩, hB1⟩ ⟨Bx, hBx, yX, rfl⟩ hlt
    clear hr hl
    have x0 := yX.cell 0 _ rfl
    have x1 := yX.cell 1 _ rfl
    have m0 := y3.cell 0 _ rfl
    have e0 := y2.cell 0 _ rfl
    have ef := y2.frozen 0
    have hlk := y4.lookup (P := Tryd.prog) (t := 132) Tryd.underlying132 Tryd.underlying9 (Tryd.zeroValue4 W) x.u.sign false
    rw [getM_seen] at hlk
    obtain ⟨es, ck, hes, hesz⟩ := y4.size
    have hps : es.size = pre.length := by rw [hesz]; simp [seenM]
    have hln : (Builtin.len_ #[132] 3 #[.map (some (w.heap.size + 1 + 1))]).run Tryd.prog W = .ok (.int .i64 (pre.length : Int)) W := by
      rw [← hps]; exact run_len_map _ _ _ _ es ck Tryd.underlying132 hes
    clear hes hps hesz es ck
    have hXs := x.u.hs
    have hsn := okGo_snoc pre x
    rw [y5, Bool.true_and] at hsn
    by_cases h4 : nameB x.u.sign = true
    · by_cases h5 : x.u.sign ∈ signs pre
      · rw [if_pos h5] at hlk
        have hok : okR pre x = false := by simp [okR, h4, h5]
        have HK := Lib.hid hok
        have HS := Lib.hid hsn
        clear hok hsn y5
        clear h5
        gi_wp2_with (refine ⟨trivial, ?_⟩; gi_at_call 25; refine (CallsIn.inRound l (callsIn_wide.2 (isName_any x.u.sign _ hXs))).mono ?_; rintro e w' ⟨rfl, rfl⟩)
        exact ⟨(KeepsOthers.setCell _ _ _).from _, ⟨⟨rfl, by rw [HS.out, HK.out]⟩, y2.set1 _⟩, hB1.setCell (p := ⟨w.heap.size + 1, 0, none⟩) (by simp) _⟩
      · rw [if_neg h5] at hlk
        by_cases h6 : decide (x.u.factor = 1) = decide (pre.length = 0)
        · have hok : okR pre x = true := by simp [okR, h4, h5, h6]
          have hnew : getM (seenM pre) x.u.sign = none := by rw [getM_seen, if_neg h5]
          have hup := y4.update (P := Tryd.prog) (t := 132) Tryd.underlying132 Tryd.underlying9 x.u.sign (.bool true) hnew
          have HN := Lib.hid hnew
          have h7 : (x.u.factor == 1) = ((pre.length : Int) == 0) := by
            have e1 : (x.u.factor == 1) = decide (x.u.factor = 1) := by by_cases h : x.u.factor = 1 <;> simp [h]
            have e2 : ((pre.length : Int) == 0) = decide (pre.length = 0) := by by_cases h : pre.length = 0 <;> simp [h]
            rw [e1, e2, h6]
          have HK := Lib.hid hok
          have HS := Lib.hid hsn
          clear hok hsn y5
          clear h5 h6 hnew
          gi_wp2_with (refine ⟨trivial, ?_⟩; gi_at_call 25; refine (CallsIn.inRound l (callsIn_wide.2 (isName_any x.u.sign _ hXs))).mono ?_; rintro e w' ⟨rfl, rfl⟩)
          have hG := y4.put_grown x.u.sign (.bool true)
          exact ⟨KeepsFrom.of_grownBy hG (fun j e => by cases e; omega), (Below.refl _ W).grown hG hB1.size (fun k e => by cases e; omega),
            ⟨⟨⟨⟨y1.kept hG (by simp; omega), y2.kept hG (by simp)⟩, y3.kept hG (by simp)⟩, by simpa [seenM] using y4.put x.u.sign (.bool true)⟩, by rw [HS.out, HK.out]⟩, hB1.grown hG hB1.size (fun k e => by cases e; omega)⟩
        · have hok : okR pre x = false := by simp [okR, h4, h5]; simpa using h6
          have h7 : (x.u.factor == 1) = !((pre.length : Int) == 0) := by
            have e1 : (x.u.factor == 1) = decide (x.u.factor = 1) := by by_cases h : x.u.factor = 1 <;> simp [h]
            have e2 : ((pre.length : Int) == 0) = decide (pre.length = 0) := by by_cases h : pre.length = 0 <;> simp [h]
            rw [e1, e2]
            exact bool_ne h6
          have HK := Lib.hid hok
          have HS := Lib.hid hsn
          clear hok hsn y5 h5 h6
          gi_wp2_with (refine ⟨trivial, ?_⟩; gi_at_call 25; refine (CallsIn.inRound l (callsIn_wide.2 (isName_any x.u.sign _ hXs))).mono ?_; rintro e w' ⟨rfl, rfl⟩)
          exact ⟨(KeepsOthers.setCell _ _ _).from _, ⟨⟨rfl, by rw [HS.out, HK.out]⟩, y2.set1 _⟩, hB1.setCell (p := ⟨w.heap.size + 1, 0, none⟩) (by simp) _⟩
    · have hok : okR pre x = false := by simp [okR, h4]
      have h4' : nameB x.u.sign = false := by simpa using h4
      have HK := Lib.hid hok
      have HS := Lib.hid hsn
      clear hok hsn y5
      clear h4
      gi_wp2_with (refine ⟨trivial, ?_⟩; gi_at_call 25; refine (CallsIn.inRound l (callsIn_wide.2 (isName_any x.u.sign _ hXs))).mono ?_; rintro e w' ⟨rfl, rfl⟩)
      exact ⟨(KeepsOthers.setCell _ _ _).from _, ⟨⟨rfl, by rw [HS.out, HK.out]⟩, y2.set1 _⟩, hB1.setCell (p := ⟨w.heap.size + 1, 0, none⟩) (by simp) _⟩
  case done =>
    rintro D ys W hD rfl ⟨⟨⟨⟨⟨y1, y2⟩, y3⟩, y4⟩, y5⟩, hB1⟩ hK
    obtain ⟨es, ck, hes, hesz⟩ := y4.size
    have hps : es.size = (yl us 1 (by decide)).length := by rw [hesz]; simp [seenM]
    have hln : (Builtin.len_ #[132] 3 #[.map (some (w.heap.size + 1 + 1))]).run Tryd.prog W = .ok (.int .i64 ((yl us 1 (by decide)).length : Int)) W := by
      rw [← hps]; exact run_len_map _ _ _ _ es ck Tryd.underlying132 hes
    clear hes hps hesz es ck
    have m0 := y3.cell 0 _ rfl
    have l1 := y1.cell 1 _ rfl
    have e0 := y2.cell 0 _ rfl
    have ef := y2.frozen 0
    have hck : checkF nm us = needF (((yl us 1 (by decide)).length : Int) == (us.length : Int)) 10 := by
      have : checkB nm us = (((yl us 1 (by decide)).length : Int) == (us.length : Int)) := by
        unfold checkB
        rw [h1, y5, decide_eq_false (by omega : ¬ us.length = 0), decide_eq_true h3, nat_beq]
        simp
      unfold checkF needF
      rw [this]
    have HC := Lib.hid hck
    clear hck y5
    gi_wp2_with (refine ⟨trivial, ?_⟩; gi_at_call 97; refine (callsIn_wide.2 (need_any _ 10 _)).mono ?_; rintro e w' ⟨rfl, rfl⟩)
    have hK' := (KeepsOthers.setCell W ⟨w.heap.size + 1, 0, none⟩ (.int .i64 (needF (((yl us 1 (by decide)).length : Int) == (us.length : Int)) 10))).same D _ hK rfl
    refine ⟨by simp, .inl ⟨_, _, rfl, run_takeDeferred hK', ?_⟩⟩
    have hc5 := cell_kept (World.cell?_setCell_same' W ⟨w.heap.size + 1, 0, none⟩ (.int .i64 (needF (((yl us 1 (by decide)).length : Int) == (us.length : Int)) 10)) (by rw [e0]; rfl)) (grownBy_putObj' _ D (.deferred none)) (fun r e => by cases e; exact ⟨_, hK', rfl⟩)
    refine ⟨_, ?_, by rw [HC.out], (hB1.setCell (p := ⟨w.heap.size + 1, 0, none⟩) (by simp) _).trans (belowK_b (w := w) (Nat.le_refl _) _ D _ _ (by omega) hK' rfl rfl)⟩
    simp [results, Tryd.f31, go_sem, hc5]
  case stop =>
    rintro D cd pre W hD hpre ⟨⟨⟨rfl, hno⟩, y2⟩, hB1⟩ hK
    gi_wp2
    refine ⟨by simp, .inl ⟨_, _, rfl, run_takeDeferred hK, ?_⟩⟩
    have hc5 := cell_kept (y2.cell 0 _ rfl) (grownBy_putObj' _ D (.deferred none)) (fun r e => by cases e; exact ⟨_, hK, rfl⟩)
    obtain ⟨t, ht⟩ := hpre
    have hck : checkF nm us = 10 := by
      have : checkB nm us = false := by
        unfold checkB
        rw [← ht, okGo_append, hno]
        simp
      unfold checkF
      rw [this]; rfl
    refine ⟨.int .i64 10, ?_, by rw [hck], hB1.trans (belowK_b (w := w) (Nat.le_refl _) W D _ _ (by omega) hK rfl rfl)⟩
    simp [results, Tryd.f31, go_sem, hc5]

set_option maxRecDepth 100000 in
set_option maxHeartbeats 1000000 in
theorem check_noname (nm : ByteArray) (hnm : (nm.size : Int) ≤ 9223372036854775807) (A : Option Addr) (c : Nat) (us : List Un) (w : World)
    (h1 : nameB nm = false) :
    Calls Tryd.prog 31 #[.agg #[.string nm, .slice A us.length c]] w fun e w' => e = .returned (.int .i64 (checkF nm us)) ∧ Below w.heap.size w w' := by
  refine (callsIn_wide (n := 6)).1 ?_
  have HC := Lib.hid (show checkF nm us = 10 by simp [checkF, checkB, h1])
  refine callsIn_of_wp_marks Tryd.func31 rfl trivial ?_ rfl
  simp only [Tryd.ntmps31, List.size_toArray, List.length_cons, List.length_nil, Nat.reduceAdd, Nat.reduceSub, Array.replicate_succ, Array.replicate_zero, List.push_toArray, List.append_toArray, List.nil_append, List.cons_append]
  gi_wp2_with (refine ⟨trivial, ?_⟩; gi_at_call 25; refine (callsIn_wide.2 (isName_any nm _ hnm)).mono ?_; rintro e w' ⟨rfl, rfl⟩)
  have hc5 := ((Cel.new (w.alloc (.cells #[.string nm, .slice A us.length c] 33)) 24 #[.int .i64 10])).cell 0 _ rfl
  rw [World.size_alloc] at hc5
  refine ⟨.int .i64 10, ?_, by rw [HC.out], ((Below.refl _ w).alloc (Nat.le_refl _) _).alloc (by simp) _⟩
  simp [results, Tryd.f31, go_sem, hc5]

set_option maxRecDepth 100000 in
set_option maxHeartbeats 1000000 in
theorem check_empty (nm : ByteArray) (hnm : (nm.size : Int) ≤ 9223372036854775807) (A : Option Addr) (c : Nat) (us : List Un) (w : World)
    (h1 : nameB nm = true) (h2 : us.length = 0) :
    Calls Tryd.prog 31 #[.agg #[.string nm, .slice A us.length c]] w fun e w' => e = .returned (.int .i64 (checkF nm us)) ∧ Below w.heap.size w w' := by
  refine (callsIn_wide (n := 6)).1 ?_
  have HC := Lib.hid (show checkF nm us = 10 by simp [checkF, checkB, h2])
  have d2 : ((us.length : Int) == 0) = true := beq_iff_eq.2 (by omega)
  clear h2
  refine callsIn_of_wp_marks Tryd.func31 rfl trivial ?_ rfl
  simp only [Tryd.ntmps31, List.size_toArray, List.length_cons, List.length_nil, Nat.reduceAdd, Nat.reduceSub, Array.replicate_succ, Array.replicate_zero, List.push_toArray, List.append_toArray, List.nil_append, List.cons_append]
  gi_wp2_with (refine ⟨trivial, ?_⟩; gi_at_call 25; refine (callsIn_wide.2 (isName_any nm _ hnm)).mono ?_; rintro e w' ⟨rfl, rfl⟩)
  have hc5 := ((Cel.new (w.alloc (.cells #[.string nm, .slice A us.length c] 33)) 24 #[.int .i64 10])).cell 0 _ rfl
  rw [World.size_alloc] at hc5
  refine ⟨.int .i64 10, ?_, by rw [HC.out], ((Below.refl _ w).alloc (Nat.le_refl _) _).alloc (by simp) _⟩
  simp [results, Tryd.f31, go_sem, hc5]

set_option maxRecDepth 100000 in
set_option maxHeartbeats 1000000 in
theorem check_long (nm : ByteArray) (hnm : (nm.size : Int) ≤ 9223372036854775807) (A : Option Addr) (c : Nat) (us : List Un) (w : World)
    (h1 : nameB nm = true) (h3 : 12 < us.length) :
    Calls Tryd.prog 31 #[.agg #[.string nm, .slice A us.length c]] w fun e w' => e = .returned (.int .i64 (checkF nm us)) ∧ Below w.heap.size w w' := by
  refine (callsIn_wide (n := 6)).1 ?_
  have HC := Lib.hid (show checkF nm us = 10 by simp [checkF, checkB, Nat.not_le.2 h3])
  have d2 : ((us.length : Int) == 0) = false := beq_eq_false_iff_ne.2 (by omega)
  have d3 : decide ((12 : Int) < us.length) = true := decide_eq_true (by omega)
  refine callsIn_of_wp_marks Tryd.func31 rfl trivial ?_ rfl
  simp only [Tryd.ntmps31, List.size_toArray, List.length_cons, List.length_nil, Nat.reduceAdd, Nat.reduceSub, Array.replicate_succ, Array.replicate_zero, List.push_toArray, List.append_toArray, List.nil_append, List.cons_append]
  gi_wp2_with (refine ⟨trivial, ?_⟩; gi_at_call 25; refine (callsIn_wide.2 (isName_any nm _ hnm)).mono ?_; rintro e w' ⟨rfl, rfl⟩)
  have hc5 := ((Cel.new (w.alloc (.cells #[.string nm, .slice A us.length c] 33)) 24 #[.int .i64 10])).cell 0 _ rfl
  rw [World.size_alloc] at hc5
  refine ⟨.int .i64 10, ?_, by rw [HC.out], ((Below.refl _ w).alloc (Nat.le_refl _) _).alloc (by simp) _⟩
  simp [results, Tryd.f31, go_sem, hc5]

/-- Check, at every ladder. -/
theorem check_any (nm : ByteArray) (hnm : (nm.size : Int) ≤ 9223372036854775807) (v : Value) (us : List Un) (w : World) (hv : LadV w v nm us) :
    Calls Tryd.prog 31 #[v] w fun e w' => e = .returned (.int .i64 (checkF nm us)) ∧ Below w.heap.size w w' := by
  obtain ⟨A, m, c, rfl, hsl⟩ := hv
  have hml : m = us.length := by
    obtain ⟨A', m', c', e, hm, _⟩ := hsl.open2 (by decide)
    cases e
    rw [unitsV_length] at hm; omega
  subst hml
  cases h1 : nameB nm with
  | false => exact check_noname nm hnm A c us w h1
  | true =>
    by_cases h2 : us.length = 0
    · exact check_empty nm hnm A c us w h1 h2
    · by_cases h3 : us.length ≤ 12
      · exact check_loop nm hnm A c us w hsl h1 (by omega) h3
      · exact check_long nm hnm A c us w h1 (by omega)
end

section
open Go Go.RowKit Go.Shelf
attribute [local go_sem] Oper.semAt_some

def findU (s : ByteArray) : List UV → Option Int
  | [] => none
  | x :: l => if x.u.sign = s then some x.v else findU s l
theorem findU_append (s : ByteArray) (l t : List UV) : findU s (l ++ t) = (findU s l).or (findU s t) := by
  induction l with
  | nil => simp [findU]
  | cons x l ih => simp only [List.cons_append, findU]; split <;> simp [ih]
def valueF (nm : ByteArray) (us : List Un) (s : ByteArray) : Int × Int :=
  if checkB nm us then (match findU s (yl us 1 (by decide)) with | some v => (v, 0) | none => (0, 11)) else (0, 10)
theorem valueF_bad {nm : ByteArray} {us : List Un} (s : ByteArray) (h : checkF nm us ≠ 0) : valueF nm us s = (0, checkF nm us) := by
  unfold checkF at *
  unfold valueF
  split <;> simp_all

set_option maxRecDepth 100000 in
set_option maxHeartbeats 1000000 in
theorem value_bad (nm : ByteArray) (hnm : (nm.size : Int) ≤ 9223372036854775807) (A : Option Addr) (c : Nat) (us : List Un) (s : ByteArray) (w : World) (hsl : Sl w 2 (.slice A us.length c) (unitsV us)) (hc : checkF nm us ≠ 0) :
    Calls Tryd.prog 29 #[.agg #[.string nm, .slice A us.length c], .string s] w fun e w' => e = .returned (.tuple #[.int .i64 (valueF nm us s).1, .int .i64 (valueF nm us s).2]) ∧ Below w.heap.size w w' := by
  have HV := Lib.hid (valueF_bad s hc)
  have hne : (checkF nm us == 0) = false := beq_eq_false_iff_ne.2 hc
  have Y1 := (((Cel.new w 33 #[.string nm, .slice A us.length c]).alloc (.cells #[.string s] 9)).alloc (.cells #[.int .i64 0] 3)).alloc (.cells #[.int .i64 0] 24)
  have Y2 := ((Cel.new (w.alloc (.cells #[.string nm, .slice A us.length c] 33)) 9 #[.string s]).alloc (.cells #[.int .i64 0] 3)).alloc (.cells #[.int .i64 0] 24)
  have Y3 := (Cel.new ((w.alloc (.cells #[.string nm, .slice A us.length c] 33)).alloc (.cells #[.string s] 9)) 3 #[.int .i64 0]).alloc (.cells #[.int .i64 0] 24)
  have Y4 := Cel.new (((w.alloc (.cells #[.string nm, .slice A us.length c] 33)).alloc (.cells #[.string s] 9)).alloc (.cells #[.int .i64 0] 3)) 24 #[.int .i64 0]
  simp only [World.size_alloc] at Y2 Y3 Y4
  have hB0 : Below w.heap.size w ((((w.alloc (.cells #[.string nm, .slice A us.length c] 33)).alloc (.cells #[.string s] 9)).alloc (.cells #[.int .i64 0] 3)).alloc (.cells #[.int .i64 0] 24)) := ((((Below.refl _ w).alloc (Nat.le_refl _) _).alloc (by simp) _).alloc (by simp; omega) _).alloc (by simp; omega) _
  have hck := check_any nm hnm (.agg #[.string nm, .slice A us.length c]) us _ ⟨A, _, c, rfl, hsl.below hB0⟩
  have hck := hck.mono (R' := fun e w1 => e = .returned (.int .i64 (checkF nm us)) ∧ Below w.heap.size w w1 ∧ Cel w1 w.heap.size 33 #[.string nm, .slice A us.length c] ∧ Cel w1 (w.heap.size + 1) 9 #[.string s] ∧ Cel w1 (w.heap.size + 1 + 1) 3 #[.int .i64 0] ∧ Cel w1 (w.heap.size + 1 + 1 + 1) 24 #[.int .i64 0])
    (fun e w1 h => ⟨h.1, hB0.trans (h.2.mono hB0.size), Y1.below Y1.lt h.2, Y2.below Y2.lt h.2, Y3.below Y3.lt h.2, Y4.below Y4.lt h.2⟩)
  clear Y1 Y2 Y3 Y4 hB0
  refine (callsIn_wide (n := 6)).1 ?_
  refine callsIn_of_wp_marks Tryd.func29 rfl trivial ?_ rfl
  simp only [Tryd.ntmps29, List.size_toArray, List.length_cons, List.length_nil, Nat.reduceAdd, Nat.reduceSub, Array.replicate_succ, Array.replicate_zero, List.push_toArray, List.append_toArray, List.nil_append, List.cons_append]
  gi_wp2_with (first | (refine ⟨trivial, ?_⟩; gi_at_call 31; refine (callsIn_wide.2 hck).mono ?_; rintro e w1 ⟨rfl, hb1, z1, z2, z3, z4⟩; have g0 := z1.cell 0 _ rfl; have g1 := z1.cell 1 _ rfl; have g2 := z2.cell 0 _ rfl; have g3 := z3.cell 0 _ rfl; have g4 := z4.cell 0 _ rfl; have g5 := z3.frozen 0; have g6 := z4.frozen 0) | (refine ⟨trivial, ?_⟩; gi_at_call 94; refine (callsIn_wide.2 (units_any nm A us.length c _)).mono ?_; rintro e w' ⟨rfl, rfl⟩))
  have k3 := (z3.set1 (.int .i64 0)).other (p := ⟨w.heap.size + 1 + 1 + 1, 0, none⟩) (by simp) (.int .i64 (checkF nm us))
  have k4 := (z4.other (p := ⟨w.heap.size + 1 + 1, 0, none⟩) (by simp) (.int .i64 0)).set1 (.int .i64 (checkF nm us))
  have r3 := k3.cell 0 _ rfl
  have r4 := k4.cell 0 _ rfl
  refine ⟨_, ?_, by rw [HV.out], (hb1.setCell (p := ⟨w.heap.size + 1 + 1, 0, none⟩) (by simp; omega) _).setCell (p := ⟨w.heap.size + 1 + 1 + 1, 0, none⟩) (by simp; omega) _⟩
  simp [results, Tryd.f29, go_sem, r3, r4]

set_option maxRecDepth 100000 in
set_option maxHeartbeats 1000000 in
theorem value_good (nm : ByteArray) (hnm : (nm.size : Int) ≤ 9223372036854775807) (A : Option Addr) (c : Nat) (us : List Un) (s : ByteArray) (w : World) (hsl : Sl w 2 (.slice A us.length c) (unitsV us)) (hc : checkF nm us = 0) :
    Calls Tryd.prog 29 #[.agg #[.string nm, .slice A us.length c], .string s] w fun e w' => e = .returned (.tuple #[.int .i64 (valueF nm us s).1, .int .i64 (valueF nm us s).2]) ∧ Below w.heap.size w w' := by
  have hne : (checkF nm us == 0) = true := beq_iff_eq.2 hc
  have Y1 := (((Cel.new w 33 #[.string nm, .slice A us.length c]).alloc (.cells #[.string s] 9)).alloc (.cells #[.int .i64 0] 3)).alloc (.cells #[.int .i64 0] 24)
  have Y2 := ((Cel.new (w.alloc (.cells #[.string nm, .slice A us.length c] 33)) 9 #[.string s]).alloc (.cells #[.int .i64 0] 3)).alloc (.cells #[.int .i64 0] 24)
  have Y3 := (Cel.new ((w.alloc (.cells #[.string nm, .slice A us.length c] 33)).alloc (.cells #[.string s] 9)) 3 #[.int .i64 0]).alloc (.cells #[.int .i64 0] 24)
  have Y4 := Cel.new (((w.alloc (.cells #[.string nm, .slice A us.length c] 33)).alloc (.cells #[.string s] 9)).alloc (.cells #[.int .i64 0] 3)) 24 #[.int .i64 0]
  simp only [World.size_alloc] at Y2 Y3 Y4
  have hB0 : Below w.heap.size w ((((w.alloc (.cells #[.string nm, .slice A us.length c] 33)).alloc (.cells #[.string s] 9)).alloc (.cells #[.int .i64 0] 3)).alloc (.cells #[.int .i64 0] 24)) := ((((Below.refl _ w).alloc (Nat.le_refl _) _).alloc (by simp) _).alloc (by simp; omega) _).alloc (by simp; omega) _
  have hck := check_any nm hnm (.agg #[.string nm, .slice A us.length c]) us _ ⟨A, _, c, rfl, hsl.below hB0⟩
  have hck := hck.mono (R' := fun e w1 => e = .returned (.int .i64 (checkF nm us)) ∧ Below w.heap.size w w1 ∧ Cel w1 w.heap.size 33 #[.string nm, .slice A us.length c] ∧ Cel w1 (w.heap.size + 1) 9 #[.string s] ∧ Cel w1 (w.heap.size + 1 + 1) 3 #[.int .i64 0] ∧ Cel w1 (w.heap.size + 1 + 1 + 1) 24 #[.int .i64 0])
    (fun e w1 h => ⟨h.1, hB0.trans (h.2.mono hB0.size), Y1.below Y1.lt h.2, Y2.below Y2.lt h.2, Y3.below Y3.lt h.2, Y4.below Y4.lt h.2⟩)
  clear Y1 Y2 Y3 Y4 hB0
  refine (callsIn_wide (n := 6)).1 ?_
  refine callsIn_of_wp_marks Tryd.func29 rfl trivial ?_ rfl
  simp only [Tryd.ntmps29, List.size_toArray, List.length_cons, List.length_nil, Nat.reduceAdd, Nat.reduceSub, Array.replicate_succ, Array.replicate_zero, List.push_toArray, List.append_toArray, List.nil_append, List.cons_append]
  gi_wp2_with (first | (refine ⟨trivial, ?_⟩; gi_at_call 31; refine (callsIn_wide.2 hck).mono ?_; rintro e w1 ⟨rfl, hb1, z1, z2, z3, z4⟩; have g0 := z1.cell 0 _ rfl; have g1 := z1.cell 1 _ rfl; have g2 := z2.cell 0 _ rfl; have g3 := z3.cell 0 _ rfl; have g4 := z4.cell 0 _ rfl; have g5 := z3.frozen 0; have g6 := z4.frozen 0) | (refine ⟨trivial, ?_⟩; gi_at_call 94; refine (callsIn_wide.2 (units_any nm A us.length c _)).mono ?_; rintro e w' ⟨rfl, rfl⟩))
  have HS := Lib.hid hsl
  clear hck
  obtain ⟨W0, hW0⟩ : ∃ W0, w1.alloc (.cells #[.string nm, .slice A us.length c] 33) = W0 := ⟨_, rfl⟩
  have Y5 := Cel.new w1 33 #[.string nm, .slice A us.length c]
  have hB0 := hb1.alloc hb1.size (.cells #[.string nm, .slice A us.length c] 33)
  have z2' := z2.alloc (.cells #[.string nm, .slice A us.length c] 33)
  have z3' := z3.alloc (.cells #[.string nm, .slice A us.length c] 33)
  have z4' := z4.alloc (.cells #[.string nm, .slice A us.length c] 33)
  have hsz : (w1.alloc (.cells #[.string nm, .slice A us.length c] 33)).heap.size = w1.heap.size + 1 := by simp
  have hgt := z4.lt
  rw [hW0] at Y5 hB0 z2' z3' z4' hsz ⊢
  have hlen : us.length ≤ 4398046511104 := by
    have : checkB nm us = true := by unfold checkF at hc; split at hc <;> simp_all
    simp [checkB] at this
    omega
  have HQ := Lib.hid (show valueF nm us s = match findU s (yl us 1 (by decide)) with | some v => (v, 0) | none => (0, 11) by
    have : checkB nm us = true := by unfold checkF at hc; split at hc <;> simp_all
    rw [valueF, if_pos this])
  clear hW0 z1 z2 z3 z4 g0 g1 g2 g3 g4 g5 g6 hc hne hsl
  refine wpIn_rangeFunc_ownH (F := Fence.wide) (n := 6) (w := W0) rfl (by decide) (gf := 123) (lb := #[.pointer (some ⟨w1.heap.size, 0, none⟩)]) rfl trivial (enters_of Tryd.func123 (by kernel_rfl) rfl)
    (units_stops 5 w1.heap.size w.heap.size (by decide) nm A us.length c us hlen W0 (by omega) (by omega) Y5 (fun w' hw' => HS.out.below (hB0.trans hw'))) belowK_t (belowK_b (by omega)) (Below.refl _ _) (fun _ => rfl)
    (fun pre W => (((Cel W (w.heap.size + 1) 9 #[.string s] ∧ Cel W (w.heap.size + 1 + 1) 3 #[.int .i64 0]) ∧ Cel W (w.heap.size + 1 + 1 + 1) 24 #[.int .i64 0]) ∧ findU s pre = none) ∧ Below w.heap.size w W)
    (fun cd pre W => ((cd = .ret ∧ (findU s pre).isSome) ∧ (Cel W (w.heap.size + 1 + 1) 3 #[.int .i64 ((findU s pre).getD 0)] ∧ Cel W (w.heap.size + 1 + 1 + 1) 24 #[.int .i64 0])) ∧ Below w.heap.size w W)
    (OwnFrom.and (OwnFrom.and (OwnFrom.and (OwnFrom.and (Own.from (Cel.own _ _ _) _) (Own.from (Cel.own _ _ _) _)) (Own.from (Cel.own _ _ _) _)) (ownFrom_pure _ _)) (ownFrom_below (Nat.le_refl _) (by omega)))
    (fun cd => OwnFrom.and (OwnFrom.and (ownFrom_pure _ _) (OwnFrom.and (Own.from (Cel.own _ _ _) _) (Own.from (Cel.own _ _ _) _))) (ownFrom_below (Nat.le_refl _) (by omega)))
    ⟨⟨⟨⟨z2', z3'⟩, z4'⟩, rfl⟩, hB0⟩
    (fun x a' W => ∃ Bx, w.heap.size + 1 + 1 + 1 < Bx ∧ Cel W Bx 78 #[.string x.u.sign, .int .i64 x.u.factor] ∧ a' = Act.mk #[Value.agg #[Value.string nm, Value.slice A us.length c], Value.string s,
          Value.pointer (some { block := w.heap.size, off := 0 }),
          Value.pointer (some { block := w.heap.size + 1, off := 0 }),
          Value.pointer (some { block := w.heap.size + 1 + 1, off := 0 }),
          Value.pointer (some { block := w.heap.size + 1 + 1 + 1, off := 0 }), Value.int IntKind.i64 0, Value.pointer (some { block := Bx, off := 0 }), .int .i64 x.v,
          Value.agg #[Value.string nm, Value.slice A us.length c], Value.int IntKind.i64 0, Value.int IntKind.i64 0,
          Value.bool false, undef, Value.agg #[Value.string nm, Value.slice A us.length c],
          Value.func (Fn.func 123) #[] #[Value.pointer (some { block := w1.heap.size, off := 0 })], .agg #[.string x.u.sign, .int .i64 x.u.factor], .int .i64 x.v, undef,
          undef, undef, undef, undef] [])
    (fun x a' _ X Y row hs hg hr => by obtain ⟨Bx, h1, h2, h3⟩ := hs; exact ⟨Bx, h1, Cel.own Bx _ (fun (_ : Unit) => #[Value.string x.u.sign, .int .i64 x.u.factor]) () X Y row h2 hg (fun r e => (hr r e).2), h3⟩)
    ?assign ?body ?done ?stop
  case assign =>
    rintro l pre x W K ⟨⟨⟨⟨y2, y3⟩, y4⟩, y5⟩, hB1⟩ hK
    dsimp only [uvV]
    gi_wp2
    exact hK _ _ ((KeepsOthers.alloc _ _).from _) ((Below.refl _ W).alloc hB1.size _) ⟨⟨⟨⟨y2.alloc _, y3.alloc _⟩, y4.alloc _⟩, y5⟩, hB1.alloc hB1.size _⟩ ⟨W.heap.size, y4.lt, Cel.new W _ _, rfl⟩
  case body =>
    rintro l pre x a' W hl ⟨r, hr⟩ ⟨⟨⟨⟨y2, y3⟩, y4⟩, y5⟩, hB1⟩ ⟨Bx, hBx, yX, rfl⟩ hlt
    clear hr hl
    have x0 := yX.cell 0 _ rfl
    have s0 := y2.cell 0 _ rfl
    have g3 := y3.cell 0 _ rfl
    have g4 := y4.cell 0 _ rfl
    have g5 := y3.frozen 0
    have g6 := y4.frozen 0
    have hsn := findU_append s pre [x]
    rw [y5] at hsn
    by_cases h4 : x.u.sign = s
    · have HF := Lib.hid (show findU s (pre ++ [x]) = some x.v by rw [hsn]; simp [findU, h4])
      have h5 : (x.u.sign.toList == s.toList) = true := by rw [bytes_toList_beq]; exact decide_eq_true h4
      clear hsn h4 y5
      gi_wp2
      exact ⟨((KeepsOthers.setCell _ _ _).trans (KeepsOthers.setCell _ _ _)).from _, ⟨⟨rfl, by rw [HF.out]; rfl⟩, by rw [HF.out]; exact (y3.set1 _).other (by simp) _, (y4.other (by simp) _).set1 _⟩,
        (hB1.setCell (p := ⟨w.heap.size + 1 + 1, 0, none⟩) (by simp; omega) _).setCell (p := ⟨w.heap.size + 1 + 1 + 1, 0, none⟩) (by simp; omega) _⟩
    · have HF := Lib.hid (show findU s (pre ++ [x]) = none by rw [hsn]; simp [findU, h4])
      have h5 : (x.u.sign.toList == s.toList) = false := by rw [bytes_toList_beq]; exact decide_eq_false h4
      clear hsn h4 y5
      gi_wp2
      exact ⟨KeepsFrom.refl _ _, Below.refl _ _, ⟨⟨⟨y2, y3⟩, y4⟩, HF.out⟩, hB1⟩
  case done =>
    rintro D ys W hD rfl ⟨⟨⟨⟨y2, y3⟩, y4⟩, y5⟩, hB1⟩ hK
    have g3 := y3.cell 0 _ rfl
    have g4 := y4.cell 0 _ rfl
    have g5 := y3.frozen 0
    have g6 := y4.frozen 0
    have HF := Lib.hid (show valueF nm us s = (0, 11) by rw [HQ.out, y5])
    clear y5
    gi_wp2
    have hK1 := (KeepsOthers.setCell W ⟨w.heap.size + 1 + 1, 0, none⟩ (.int .i64 0)).same D _ hK rfl
    have hK' := (KeepsOthers.setCell _ ⟨w.heap.size + 1 + 1 + 1, 0, none⟩ (.int .i64 11)).same D _ hK1 rfl
    refine ⟨by simp, .inl ⟨_, _, rfl, run_takeDeferred hK', ?_⟩⟩
    have k3 := cell_kept (((y3.set1 (.int .i64 0)).other (p := ⟨w.heap.size + 1 + 1 + 1, 0, none⟩) (by simp) (.int .i64 11)).cell 0 _ rfl) (grownBy_putObj' _ D (.deferred none)) (fun r e => by cases e; exact ⟨_, hK', rfl⟩)
    have k4 := cell_kept (((y4.other (p := ⟨w.heap.size + 1 + 1, 0, none⟩) (by simp) (.int .i64 0)).set1 (.int .i64 11)).cell 0 _ rfl) (grownBy_putObj' _ D (.deferred none)) (fun r e => by cases e; exact ⟨_, hK', rfl⟩)
    refine ⟨_, ?_, by rw [HF.out], ((hB1.setCell (p := ⟨w.heap.size + 1 + 1, 0, none⟩) (by simp; omega) _).setCell (p := ⟨w.heap.size + 1 + 1 + 1, 0, none⟩) (by simp; omega) _).trans (belowK_b (w := w) (Nat.le_refl _) _ D _ _ (by omega) hK' rfl rfl)⟩
    simp [results, Tryd.f29, go_sem, k3, k4]
  case stop =>
    rintro D cd pre W hD hpre ⟨⟨⟨rfl, hso⟩, y3, y4⟩, hB1⟩ hK
    gi_wp2
    refine ⟨by simp, .inl ⟨_, _, rfl, run_takeDeferred hK, ?_⟩⟩
    obtain ⟨v, hv⟩ := Option.isSome_iff_exists.1 hso
    rw [hv] at y3
    have k3 := cell_kept (y3.cell 0 _ rfl) (grownBy_putObj' _ D (.deferred none)) (fun r e => by cases e; exact ⟨_, hK, rfl⟩)
    have k4 := cell_kept (y4.cell 0 _ rfl) (grownBy_putObj' _ D (.deferred none)) (fun r e => by cases e; exact ⟨_, hK, rfl⟩)
    obtain ⟨t, ht⟩ := hpre
    have HF : valueF nm us s = (v, 0) := by rw [HQ.out, ← ht, findU_append, hv]; rfl
    refine ⟨_, ?_, by rw [HF], hB1.trans (belowK_b (w := w) (Nat.le_refl _) W D _ _ (by omega) hK rfl rfl)⟩
    simp [results, Tryd.f29, go_sem, k3, k4]

/-- Value, at every ladder and sign. -/
theorem value_any (nm : ByteArray) (hnm : (nm.size : Int) ≤ 9223372036854775807) (v : Value) (us : List Un) (s : ByteArray) (w : World) (hv : LadV w v nm us) :
    Calls Tryd.prog 29 #[v, .string s] w fun e w' => e = .returned (.tuple #[.int .i64 (valueF nm us s).1, .int .i64 (valueF nm us s).2]) ∧ Below w.heap.size w w' := by
  obtain ⟨A, m, c, rfl, hsl⟩ := hv
  have hml : m = us.length := by
    obtain ⟨A', m', c', e, hm, _⟩ := hsl.open2 (by decide)
    cases e
    rw [unitsV_length] at hm; omega
  subst hml
  by_cases h : checkF nm us = 0
  · exact value_good nm hnm A c us s w hsl h
  · exact value_bad nm hnm A c us s w hsl h
end

section
open Go Go.RowKit Go.Shelf

theorem Cel.setAt {W : World} {B : Nat} {t : TypeId} {vs : Array Value} (h : Cel W B t vs) (k : Nat) (v' : Value) : Cel (W.setCell ⟨B, k, none⟩ v') B t (vs.setIfInBounds k v') := by
  have e : W.heap[B]? = some (.cells vs t (0, 0)) := h
  show (W.setCell ⟨B, k, none⟩ v').heap[B]? = _
  unfold World.setCell
  rw [Array.getElem?_modify, if_pos rfl, e]
  rfl

theorem add_plain (B i j : Nat) : (⟨B, i, none⟩ : Addr).add j = ⟨B, i + j, none⟩ := by
  unfold Addr.add
  by_cases h : j = 0 <;> simp [h]
/-- A whole block, read as a slice. -/
theorem Cel.sl {W : World} {B : Nat} {t : TypeId} {vs : Array Value} {xs : List Value} {s m cap : Nat} (h : Cel W B t vs) (hx : vs.toList = xs) (hm : xs.length = m * s) (hc : m ≤ cap) (hc2 : (cap : Int) ≤ 9223372036854775807) : Sl W s (.slice (some ⟨B, 0, none⟩) m cap) xs :=
  ⟨_, _, _, rfl, hm, hc, hc2, fun _ => ⟨_, rfl, fun j u hu => by rw [add_plain, Nat.zero_add]; exact h.cell j u (by rw [← hx] at hu; simpa using hu)⟩⟩

/-- The counts of n. -/
def splitF : List Un → Int → List Int
  | [], _ => []
  | [_], n => [n]
  | _ :: u :: us, n => (n % u.factor) :: splitF (u :: us) (n / u.factor)
theorem splitF_length (us : List Un) (n : Int) : (splitF us n).length = us.length := by
  induction us generalizing n with
  | nil => rfl
  | cons u us ih =>
    cases us with
    | nil => rfl
    | cons u' us => simp only [splitF, List.length_cons]; rw [ih]; rfl
theorem yl_full {us : List Un} {v : Int} {hv : 1 ≤ v} (h : (yl us v hv).length = us.length) : ∀ u ∈ us, 1 ≤ u.factor ∧ u.factor ≤ 60 := by
  induction us generalizing v with
  | nil => simp
  | cons u us ih =>
    by_cases h1 : 1 ≤ u.factor ∧ u.factor ≤ 60
    · by_cases h2 : v * u.factor ≤ 1099511627776
      · rw [yl_go h1 h2] at h
        intro x hx
        rcases List.mem_cons.1 hx with rfl | hx
        · exact h1
        · exact ih (by simpa using h) x hx
      · rw [yl_big h2] at h; simp at h
    · rw [yl_out h1] at h; simp at h
theorem checkF_zero {nm : ByteArray} {us : List Un} (h : checkF nm us = 0) : (∀ u ∈ us, 1 ≤ u.factor ∧ u.factor ≤ 60) ∧ 1 ≤ us.length ∧ us.length ≤ 12 := by
  have : checkB nm us = true := by unfold checkF at h; split at h <;> simp_all
  simp only [checkB, Bool.and_eq_true, decide_eq_true_eq, Bool.not_eq_true', decide_eq_false_iff_not] at this
  exact ⟨yl_full this.2, by omega, by omega⟩
theorem infoInt : (Tryd.prog.info? 3).map (fun i => (i.zero, i.size, i.bytes)) = some (some (.int .i64 0), 1, 8) := by kernel_rfl

theorem splitF_step {us : List Un} {k : Nat} (n : Int) (h : k + 1 < us.length) : splitF (us.drop k) n = (n % us[k + 1].factor) :: splitF (us.drop (k + 1)) (n / us[k + 1].factor) := by
  rw [List.drop_eq_getElem_cons (by omega : k < us.length), List.drop_eq_getElem_cons h]
  rfl
theorem splitF_last {us : List Un} {k : Nat} (n : Int) (h : k + 1 = us.length) : splitF (us.drop k) n = [n] := by
  rw [List.drop_eq_getElem_cons (by omega : k < us.length), List.drop_of_length_le (by omega)]
  rfl

set_option maxRecDepth 100000 in
set_option maxHeartbeats 1000000 in
theorem split_any (nm : ByteArray) (A : Option Addr) (c : Nat) (us : List Un) (n : Int) (w : World) (hsl : Sl w 2 (.slice A us.length c) (unitsV us)) (hf : ∀ u ∈ us, 1 ≤ u.factor ∧ u.factor ≤ 60) (h1 : 1 ≤ us.length) (h2 : us.length ≤ 12) (hn : 0 ≤ n) (hn2 : n ≤ 9223372036854775807) :
    Calls Tryd.prog 114 #[.agg #[.string nm, .slice A us.length c], .int .i64 n] w fun e w' => ∃ v, e = .returned v ∧ Sl w' 1 v ((splitF us n).map (Value.int .i64)) ∧ Below w.heap.size w w' := by
  have hmk := run_make_row' (P := Tryd.prog) 75 3 (.int .i64 0) 8 Tryd.underlying75 infoInt rfl .i64 .i64 us.length (by omega) (by omega)
  go_enter Tryd.func114, Tryd.ntmps114
  go_wp2
  have Y1 := (Cel.new w 33 #[.string nm, .slice A us.length c]).alloc (.cells (madeCells #[.int .i64 0] us.length) 3)
  have Y2 := Cel.new (w.alloc (.cells #[.string nm, .slice A us.length c] 33)) 3 (madeCells #[.int .i64 0] us.length)
  have hB0 : Below w.heap.size w ((w.alloc (.cells #[.string nm, .slice A us.length c] 33)).alloc (.cells (madeCells #[.int .i64 0] us.length) 3)) := ((Below.refl _ w).alloc (Nat.le_refl _) _).alloc (by simp) _
  simp only [World.size_alloc] at Y2
  obtain ⟨W0, hW0⟩ : ∃ W0, (w.alloc (.cells #[.string nm, .slice A us.length c] 33)).alloc (.cells (madeCells #[.int .i64 0] us.length) 3) = W0 := ⟨_, rfl⟩
  rw [hW0] at Y1 Y2 hB0 ⊢
  clear hW0
  have HF := Lib.hid hf
  have HS := Lib.hid hsl
  clear hf hmk hsl
  go_loopw [1, 13] (fun t1 t13 wr => ∃ (k : Nat) (m : Int) (C : Array Value), k < us.length ∧ t13 = .int .i64 k ∧ t1 = .int .i64 m ∧ 0 ≤ m ∧ m ≤ 9223372036854775807 ∧ Cel wr w.heap.size 33 #[.string nm, .slice A us.length c] ∧ Cel wr (w.heap.size + 1) 3 C ∧ C.size = us.length ∧
      (∀ j, j < us.length → ∃ z, C[j]? = some (Value.int .i64 z)) ∧ (∃ pre, C.toList.take k = pre.map (Value.int .i64) ∧ splitF us n = pre ++ splitF (us.drop k) m) ∧ Below w.heap.size w wr)
    (fun _ t13 _ => us.length - (intOf t13).toNat)
  case atStart => exact ⟨0, n, _, by omega, rfl, rfl, hn, hn2, Y1, Y2, size_madeCells _ _, fun j hj => ⟨0, by simp [madeCells, hj, Nat.mod_one]⟩, ⟨[], rfl, rfl⟩, hB0⟩
  case round =>
    obtain ⟨k, m, C, hk, rfl, rfl, hm, hm2, y1, y2, hC, hCi, hpre, hB1⟩ := hrel
    clear hB0 Y1 Y2
    have c1 := y1.cell 1 _ rfl
    obtain ⟨z, hz⟩ := hCi k hk
    have c2 := y2.cell k _ hz
    have c3 := y2.frozen k
    have HC := Lib.hid hC
    have HCi := Lib.hid hCi
    have HP := Lib.hid hpre
    clear hC hCi hpre
    by_cases hl : k + 1 = us.length
    · have b1 : (((k : Int) + 1) == (us.length : Int)) = true := beq_iff_eq.2 (by omega)
      go_wp2
      go_ret
      obtain ⟨pre, hp1, hp2⟩ := HP.out
      have hC := HC.out
      have hpl : pre.length = k := by
        have := congrArg List.length hp1
        simp at this; omega
      refine ⟨_, rfl, (y2.setAt k (.int .i64 m)).sl (xs := (splitF us n).map (Value.int .i64)) ?_ (by rw [List.length_map, splitF_length]; omega) (Nat.le_refl _) (by omega), hB1.setCell (p := ⟨w.heap.size + 1, k, none⟩) (by simp) _⟩
      rw [hp2, splitF_last m hl, List.map_append, ← hp1]
      simp only [Array.toList_setIfInBounds]
      rw [List.set_eq_take_append_cons_drop, if_pos (by simp; omega), List.drop_of_length_le (by simp; omega)]
      rfl
    · have hlt : k + 1 < us.length := by omega
      have b1 : (((k : Int) + 1) == (us.length : Int)) = false := beq_eq_false_iff_ne.2 (by omega)
      obtain ⟨A', n', c', e, hm', _, _, hcl⟩ := HS.out.open2 (by decide)
      cases e
      obtain ⟨b, o, e, hb, hce⟩ := hcl (by omega)
      cases e
      obtain ⟨_, g1⟩ := unitsV_get hlt
      have e0 := hce _ _ g1
      rw [← Nat.add_assoc] at e0
      have e1 := below_cell hB1 e0
      have e2 := fun z => below_cell (hB1.setCell (p := ⟨w.heap.size + 1, k, none⟩) (by simp) z) e0
      clear hce hcl g1 hm' e0
      have hfk := HF.out us[k + 1] (List.getElem_mem _)
      obtain ⟨hf1, hf2⟩ := hfk
      have HSt := Lib.hid (splitF_step m hlt)
      generalize us[k + 1].factor = f at *
      go_wp2
      go_roundw
      case rel =>
        obtain ⟨pre, hp1, hp2⟩ := HP.out
        have hC := HC.out
        refine ⟨k + 1, m / f, C.setIfInBounds k (.int .i64 (m % f)), hlt, by simp, rfl, Int.ediv_nonneg hm (by omega), Int.le_trans (Int.ediv_le_self _ hm) hm2, y1.other (by simp) _, y2.setAt k _, by simpa using hC, ?_, ⟨pre ++ [m % f], ?_, ?_⟩, hB1.setCell (p := ⟨w.heap.size + 1, k, none⟩) (by simp) _⟩
        · intro j hj
          by_cases e : k = j
          · subst e; exact ⟨m % f, by simp [hC, hj]⟩
          · obtain ⟨z', hz'⟩ := HCi.out j hj
            exact ⟨z', by rw [Array.getElem?_setIfInBounds_ne e]; exact hz'⟩
        · simp only [Array.toList_setIfInBounds, List.map_append, ← hp1]
          rw [List.take_set, List.take_succ_eq_append_getElem (by simp; omega), List.set_append_right _ _ (by simp; omega)]
          simp [hC, Nat.min_eq_left (Nat.le_of_lt hk)]
        · rw [hp2, HSt.out]; simp
      case measure => simp [intOf]; omega
end

section
open Go Go.RowKit Go.Shelf

def rangeB (n : Int) : Bool := decide (0 ≤ n) && decide (n ≤ 1099511627776)
theorem rangeB_lo {n : Int} (h : ¬ 0 ≤ n) : rangeB n = false := by simp [rangeB, h]
theorem rangeB_hi {n : Int} (h : 0 ≤ n) : rangeB n = decide (n ≤ 1099511627776) := by simp [rangeB, h]
def splitE (nm : ByteArray) (us : List Un) (n : Int) : Int := firstF [checkF nm us, needF (rangeB n) 8]
def splitL (nm : ByteArray) (us : List Un) (n : Int) : List Int := if splitE nm us n = 0 then splitF us n else []
theorem splitE_zero {nm : ByteArray} {us : List Un} {n : Int} (h : splitE nm us n = 0) : checkF nm us = 0 ∧ 0 ≤ n ∧ n ≤ 1099511627776 := by
  unfold splitE at h
  by_cases h1 : checkF nm us = 0
  · refine ⟨h1, ?_⟩
    simp only [firstF, h1, if_true] at h
    by_cases h2 : rangeB n = true
    · simpa [rangeB] using h2
    · simp [needF, h2] at h
  · simp [firstF, h1] at h
theorem Sl.nilv (w : World) (s : Nat) : Sl w s (.slice none 0 0) [] := ⟨none, 0, 0, rfl, by simp, Nat.le_refl _, by omega, fun h => absurd h (by omega)⟩

theorem first2_any (e1 e2 q : Int) (w : World) (hq : firstF [e1, e2] = q) :
    Calls Tryd.prog 102 #[.slice (some ⟨w.heap.size, 0, none⟩) 2 2] (w.alloc (.cells #[.int .i64 e1, .int .i64 e2] 24)) fun e w' => e = .returned (.int .i64 q) ∧ w.alloc (.cells #[.int .i64 e1, .int .i64 e2] 24) = w' := by
  subst hq
  exact first_any _ [e1, e2] _ ((Cel.new w 24 #[.int .i64 e1, .int .i64 e2]).sl (s := 1) rfl rfl (Nat.le_refl _) (by decide))
theorem first3_any (e1 e2 e3 q : Int) (w : World) (hq : firstF [e1, e2, e3] = q) :
    Calls Tryd.prog 102 #[.slice (some ⟨w.heap.size, 0, none⟩) 3 3] (w.alloc (.cells #[.int .i64 e1, .int .i64 e2, .int .i64 e3] 24)) fun e w' => e = .returned (.int .i64 q) ∧ w.alloc (.cells #[.int .i64 e1, .int .i64 e2, .int .i64 e3] 24) = w' := by
  subst hq
  exact first_any _ [e1, e2, e3] _ ((Cel.new w 24 #[.int .i64 e1, .int .i64 e2, .int .i64 e3]).sl (s := 1) rfl rfl (Nat.le_refl _) (by decide))

set_option maxRecDepth 100000 in
set_option maxHeartbeats 1000000 in
theorem Split_any (nm : ByteArray) (hnm : (nm.size : Int) ≤ 9223372036854775807) (A : Option Addr) (c : Nat) (us : List Un) (n : Int) (w : World) (hsl : Sl w 2 (.slice A us.length c) (unitsV us)) (hn2 : n ≤ 9223372036854775807) :
    Calls Tryd.prog 53 #[.agg #[.string nm, .slice A us.length c], .int .i64 n] w fun e w' => ∃ v, e = .returned (.tuple #[v, .int .i64 (splitE nm us n)]) ∧ Sl w' 1 v ((splitL nm us n).map (Value.int .i64)) ∧ Below w.heap.size w w' := by
  have Y1 := Cel.new w 33 #[.string nm, .slice A us.length c]
  have hB0 : Below w.heap.size w (w.alloc (.cells #[.string nm, .slice A us.length c] 33)) := below_alloc' _ _
  have hck := (check_any nm hnm (.agg #[.string nm, .slice A us.length c]) us (w.alloc (.cells #[.string nm, .slice A us.length c] 33)) ⟨A, _, c, rfl, hsl.below hB0⟩).mono (R' := fun e w1 => e = .returned (.int .i64 (checkF nm us)) ∧ Below w.heap.size w w1 ∧ Cel w1 w.heap.size 33 #[.string nm, .slice A us.length c])
    (fun e w1 h => ⟨h.1, hB0.trans (h.2.mono hB0.size), Y1.below Y1.lt h.2⟩)
  clear Y1 hB0
  obtain ⟨q, hq⟩ : ∃ q, splitE nm us n = q := ⟨_, rfl⟩
  have HL := Lib.hid (show splitL nm us n = if q = 0 then splitF us n else [] by rw [← hq]; rfl)
  have HQ := Lib.hid hq
  have HZ := Lib.hid (fun e => splitE_zero (hq.trans e))
  rw [hq]
  have HS := Lib.hid hsl
  clear hsl hq
  by_cases h0 : 0 ≤ n
  · have d0 : decide (0 ≤ n) = true := decide_eq_true h0
    by_cases h1 : n ≤ 1099511627776
    · have d1 : decide (n ≤ 1099511627776) = true := decide_eq_true h1
      have HR := Lib.hid (show firstF [checkF nm us, needF true 8] = q by rw [← HQ.out, splitE, rangeB_hi h0, d1])
      by_cases hq0 : q = 0
      · have dq : (q == 0) = true := beq_iff_eq.2 hq0
        obtain ⟨hc0, _, _⟩ := HZ.out hq0
        obtain ⟨hf, hl1, hl2⟩ := checkF_zero hc0
        have HF := Lib.hid hf
        clear hf hc0
        go_enter Tryd.func53, Tryd.ntmps53
        go_wp2_with (first | (go_at_call_of 31 (Value.agg #[.string nm, .slice A us.length c]); refine hck.mono ?_; rintro e w1 ⟨rfl, hb1, z1⟩; have g0 := z1.cell 0 _ rfl; have g1 := z1.cell 1 _ rfl; have ga := fun o => (z1.alloc o).cell 0 (.string nm) rfl; have gb := fun o => (z1.alloc o).cell 1 (.slice A us.length c) rfl) | (go_at_call_of 97 (Value.int .i64 8); refine (need_any _ 8 _).mono ?_; rintro e w2 ⟨rfl, rfl⟩) | (go_at_call 102; refine (first2_any _ _ q w1 HR.out).mono ?_; rintro e w2 ⟨rfl, rfl⟩) | (go_at_call 114; refine (split_any nm A c us n _ (HS.out.below (hb1.alloc hb1.size _)) HF.out hl1 hl2 h0 hn2).mono ?_; rintro e w3 ⟨v, rfl, hv, hb3⟩))
        go_ret2
        exact ⟨_, by rw [hq0]; rfl, by rw [HL.out, if_pos hq0]; exact hv, (hb1.alloc hb1.size _).trans (hb3.mono (hb1.alloc hb1.size _).size)⟩
      · have dq : (q == 0) = false := beq_eq_false_iff_ne.2 hq0
        go_enter Tryd.func53, Tryd.ntmps53
        go_wp2_with (first | (go_at_call_of 31 (Value.agg #[.string nm, .slice A us.length c]); refine hck.mono ?_; rintro e w1 ⟨rfl, hb1, z1⟩; have g0 := z1.cell 0 _ rfl; have g1 := z1.cell 1 _ rfl; have ga := fun o => (z1.alloc o).cell 0 (.string nm) rfl; have gb := fun o => (z1.alloc o).cell 1 (.slice A us.length c) rfl) | (go_at_call_of 97 (Value.int .i64 8); refine (need_any _ 8 _).mono ?_; rintro e w2 ⟨rfl, rfl⟩) | (go_at_call 102; refine (first2_any _ _ q w1 HR.out).mono ?_; rintro e w2 ⟨rfl, rfl⟩))
        go_ret2
        exact ⟨_, rfl, by rw [HL.out, if_neg hq0]; exact Sl.nilv _ _, hb1.alloc hb1.size _⟩
    · have d1 : decide (n ≤ 1099511627776) = false := decide_eq_false h1
      have HR := Lib.hid (show firstF [checkF nm us, needF false 8] = q by rw [← HQ.out, splitE, rangeB_hi h0, d1])
      have hq0 : ¬ q = 0 := fun e => h1 (HZ.out e).2.2
      have dq : (q == 0) = false := beq_eq_false_iff_ne.2 hq0
      go_enter Tryd.func53, Tryd.ntmps53
      go_wp2_with (first | (go_at_call_of 31 (Value.agg #[.string nm, .slice A us.length c]); refine hck.mono ?_; rintro e w1 ⟨rfl, hb1, z1⟩; have g0 := z1.cell 0 _ rfl; have g1 := z1.cell 1 _ rfl; have ga := fun o => (z1.alloc o).cell 0 (.string nm) rfl; have gb := fun o => (z1.alloc o).cell 1 (.slice A us.length c) rfl) | (go_at_call_of 97 (Value.int .i64 8); refine (need_any _ 8 _).mono ?_; rintro e w2 ⟨rfl, rfl⟩) | (go_at_call 102; refine (first2_any _ _ q w1 HR.out).mono ?_; rintro e w2 ⟨rfl, rfl⟩))
      go_ret2
      exact ⟨_, rfl, by rw [HL.out, if_neg hq0]; exact Sl.nilv _ _, hb1.alloc hb1.size _⟩
  · have d0 : decide (0 ≤ n) = false := decide_eq_false h0
    have HR := Lib.hid (show firstF [checkF nm us, needF false 8] = q by rw [← HQ.out, splitE, rangeB_lo h0])
    have hq0 : ¬ q = 0 := fun e => h0 (HZ.out e).2.1
    have dq : (q == 0) = false := beq_eq_false_iff_ne.2 hq0
    go_enter Tryd.func53, Tryd.ntmps53
    go_wp2_with (first | (go_at_call_of 31 (Value.agg #[.string nm, .slice A us.length c]); refine hck.mono ?_; rintro e w1 ⟨rfl, hb1, z1⟩; have g0 := z1.cell 0 _ rfl; have g1 := z1.cell 1 _ rfl; have ga := fun o => (z1.alloc o).cell 0 (.string nm) rfl; have gb := fun o => (z1.alloc o).cell 1 (.slice A us.length c) rfl) | (go_at_call_of 97 (Value.int .i64 8); refine (need_any _ 8 _).mono ?_; rintro e w2 ⟨rfl, rfl⟩) | (go_at_call 102; refine (first2_any _ _ q w1 HR.out).mono ?_; rintro e w2 ⟨rfl, rfl⟩))
    go_ret2
    exact ⟨_, rfl, by rw [HL.out, if_neg hq0]; exact Sl.nilv _ _, hb1.alloc hb1.size _⟩
end
end Go.Proofs.YtmibpncmebhbjaaDoor
