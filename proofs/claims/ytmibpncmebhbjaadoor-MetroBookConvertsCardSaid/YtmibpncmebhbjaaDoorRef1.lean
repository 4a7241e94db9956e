/- Plain: what the reference asks of a ladder is what Check asks; where a sign stands; the values. No condition. -/
import Derived.Test.YtmibpncmebhbjaaDoorP3
namespace Go.Proofs.YtmibpncmebhbjaaDoor
open Go Go.RowKit Go.Shelf

def sgnsU (l : List Un) : List ByteArray := l.map (·.sign)
/-- What the reference asks of a unit behind others. -/
def okU (pre : List Un) (u : Un) : Bool := nameB u.sign && !decide (u.sign ∈ sgnsU pre) && (if pre.length = 0 then decide (u.factor = 1) else decide (2 ≤ u.factor) && decide (u.factor ≤ 60))
def rGo (pre : List Un) : List Un → Bool
  | [] => true
  | u :: us => okU pre u && rGo (pre ++ [u]) us
theorem okR_okU (s : List UV) (x : UV) : okR s x = okU (s.map (·.u)) x.u := by
  have h := x.h1
  have e : signs s = sgnsU (s.map (·.u)) := by simp [signs, sgnsU]
  unfold okR okU
  rw [e, List.length_map]
  congr 1
  by_cases h0 : s.length = 0
  · simp [h0]
  · by_cases h1 : x.u.factor = 1
    · simp [h0, h1]
    · have h2 : 2 ≤ x.u.factor := by omega
      simp [h0, h1, h2, h.2]
theorem okGo_rGo {us : List Un} {v : Int} {hv : 1 ≤ v} (s : List UV) (h : (yl us v hv).length = us.length) : okGo s (yl us v hv) = rGo (s.map (·.u)) us := by
  induction us generalizing v s with
  | nil => simp [yl, okGo, rGo]
  | cons u us ih =>
    by_cases h1 : 1 ≤ u.factor ∧ u.factor ≤ 60
    · by_cases h2 : v * u.factor ≤ 1099511627776
      · rw [yl_go h1 h2] at h ⊢
        have := ih (hv := mul_pos1 hv h1.1) (s ++ [⟨u, v * u.factor, h1, mul_pos1 hv h1.1, h2⟩]) (by simpa using h)
        simp only [okGo, rGo]
        rw [this, okR_okU]
        simp
      · rw [yl_big h2] at h; simp at h
    · rw [yl_out h1] at h; simp at h
def rcheckB (nm : ByteArray) (us : List Un) : Bool := nameB nm && decide (1 ≤ us.length) && decide (us.length ≤ 12) && rGo [] us && decide ((yl us 1 (by decide)).length = us.length)
theorem checkB_r (nm : ByteArray) (us : List Un) : checkB nm us = rcheckB nm us := by
  have e : (!decide (us.length = 0)) = decide (1 ≤ us.length) := by
    by_cases h : us.length = 0
    · simp [h]
    · have : 1 ≤ us.length := by omega
      simp [this]
      intro e; subst e; simp at h
  unfold checkB rcheckB
  rw [e]
  by_cases h : (yl us 1 (by decide)).length = us.length
  · rw [okGo_rGo [] h]; rfl
  · rw [decide_eq_false h]; simp
theorem checkF_r (nm : ByteArray) (us : List Un) : checkF nm us = if rcheckB nm us then 0 else 10 := by rw [← checkB_r]; rfl
theorem rGo_step {us : List Un} {k : Nat} (h : k < us.length) : rGo (us.take k) (us.drop k) = (okU (us.take k) us[k] && rGo (us.take (k + 1)) (us.drop (k + 1))) := by
  rw [List.drop_eq_getElem_cons h, List.take_succ_eq_append_getElem h]
  rfl
theorem rGo_end {us : List Un} {k : Nat} (h : us.length ≤ k) : rGo (us.take k) (us.drop k) = true := by rw [List.drop_of_length_le h]; rfl
theorem rGo_range {pre us : List Un} (h : rGo pre us = true) : ∀ u ∈ us, 1 ≤ u.factor ∧ u.factor ≤ 60 := by
  induction us generalizing pre with
  | nil => simp
  | cons u us ih =>
    simp only [rGo, Bool.and_eq_true] at h
    intro x hx
    rcases List.mem_cons.1 hx with rfl | hx
    · have := h.1
      unfold okU at this
      split at this
      · simp at this; omega
      · simp at this; omega
    · exact ih h.2 x hx

/-- Where a sign stands; -1: nowhere. -/
def sgnAt (s : ByteArray) (us : List Un) : Option Nat := us.findIdx? (fun u => decide (u.sign = s))
def sgnI (s : ByteArray) (us : List Un) : Int := match sgnAt s us with | some i => i | none => -1
theorem sgnI_hit {s : ByteArray} {us : List Un} {k : Nat} (h : k < us.length) (h1 : us[k].sign = s) (h2 : ∀ j (hj : j < us.length), j < k → us[j].sign ≠ s) : sgnI s us = k := by
  have : sgnAt s us = some k := List.findIdx?_eq_some_iff_getElem.2 ⟨h, by simpa using h1, fun j hj => by simpa using h2 j (by omega) hj⟩
  simp [sgnI, this]
theorem sgnI_none {s : ByteArray} {us : List Un} (h2 : ∀ j (hj : j < us.length), us[j].sign ≠ s) : sgnI s us = -1 := by
  have : sgnAt s us = none := by
    refine List.findIdx?_eq_none_iff.2 fun x hx => ?_
    obtain ⟨j, hj, rfl⟩ := List.getElem_of_mem hx
    simpa using h2 j hj
  simp [sgnI, this]
theorem sgnAt_lt {s : ByteArray} {us : List Un} {i : Nat} (h : sgnAt s us = some i) : i < us.length := (List.findIdx?_eq_some_iff_getElem.1 h).1
theorem sgnI_at {us : List Un} {k : Nat} (h : k < us.length) : (sgnI us[k].sign us = (k : Int)) ↔ ¬ us[k].sign ∈ sgnsU (us.take k) := by
  constructor
  · intro e hm
    unfold sgnI at e
    split at e
    · next i hi =>
      have : i = k := by omega
      subst this
      obtain ⟨_, _, h2⟩ := List.findIdx?_eq_some_iff_getElem.1 hi
      obtain ⟨u, hu, hs⟩ := List.mem_map.1 hm
      obtain ⟨j, hj, rfl⟩ := List.getElem_of_mem hu
      have hj' : j < i := by simp at hj; omega
      have := h2 j hj'
      rw [List.getElem_take] at hs
      simp [hs] at this
    · omega
  · intro hm
    refine sgnI_hit h rfl fun j hj hjk e => hm ?_
    refine List.mem_map.2 ⟨us[j], ?_, e⟩
    have hj' : j < (us.take k).length := by simp; omega
    have : (us.take k)[j]'hj' = us[j] := List.getElem_take
    rw [← this]
    exact List.getElem_mem _
theorem okU_eq {us : List Un} {k : Nat} (h : k < us.length) : okU (us.take k) us[k] = (nameB us[k].sign && decide (sgnI us[k].sign us = (k : Int)) && (if k = 0 then decide (us[k].factor = 1) else decide (2 ≤ us[k].factor) && decide (us[k].factor ≤ 60))) := by
  have e : decide (sgnI us[k].sign us = (k : Int)) = !decide (us[k].sign ∈ sgnsU (us.take k)) := by
    by_cases hm : us[k].sign ∈ sgnsU (us.take k)
    · rw [decide_eq_true hm, decide_eq_false fun e => (sgnI_at h).1 e hm]; rfl
    · rw [decide_eq_false hm, decide_eq_true ((sgnI_at h).2 hm)]; rfl
  have e2 : (us.take k).length = k := by simp; omega
  unfold okU
  rw [e, e2]

/-- The values of the signs. -/
def vals (us : List Un) : List Int := (yl us 1 (by decide)).map (·.v)
theorem yl_units {us : List Un} {v : Int} {hv : 1 ≤ v} (h : (yl us v hv).length = us.length) : (yl us v hv).map (·.u) = us := by
  induction us generalizing v with
  | nil => simp [yl]
  | cons u us ih =>
    by_cases h1 : 1 ≤ u.factor ∧ u.factor ≤ 60
    · by_cases h2 : v * u.factor ≤ 1099511627776
      · rw [yl_go h1 h2] at h ⊢
        simp only [List.map_cons]
        rw [ih (by simpa using h)]
      · rw [yl_big h2] at h; simp at h
    · rw [yl_out h1] at h; simp at h
theorem findU_at (s : ByteArray) (Y : List UV) : findU s Y = (sgnAt s (Y.map (·.u))).bind fun i => (Y.map (·.v))[i]? := by
  induction Y with
  | nil => rfl
  | cons x Y ih =>
    unfold sgnAt at ih ⊢
    simp only [findU, List.map_cons, List.findIdx?_cons]
    by_cases h : x.u.sign = s
    · simp [h]
    · simp only [h, if_false, decide_false, Bool.false_eq_true]
      rw [ih]
      cases List.findIdx? (fun u => decide (u.sign = s)) (Y.map (·.u)) <;> simp
theorem checkB_full {nm : ByteArray} {us : List Un} (h : checkF nm us = 0) : (yl us 1 (by decide)).length = us.length := by
  have : checkB nm us = true := by unfold checkF at h; split at h <;> simp_all
  simp only [checkB, Bool.and_eq_true, decide_eq_true_eq] at this
  exact this.2
theorem valueF_yes {nm : ByteArray} {us : List Un} {s : ByteArray} {i : Nat} (h : checkF nm us = 0) (hi : sgnAt s us = some i) : ∃ v, (vals us)[i]? = some v ∧ valueF nm us s = (v, 0) := by
  have hf := checkB_full h
  have hc : checkB nm us = true := by unfold checkF at h; split at h <;> simp_all
  have hl := sgnAt_lt hi
  have e : findU s (yl us 1 (by decide)) = (vals us)[i]? := by
    rw [findU_at, yl_units hf, hi]; rfl
  have hlt : i < (vals us).length := by simp [vals, hf, hl]
  refine ⟨(vals us)[i], List.getElem?_eq_getElem hlt, ?_⟩
  unfold valueF
  rw [hc, e, List.getElem?_eq_getElem hlt]
  rfl
theorem valueF_no {nm : ByteArray} {us : List Un} {s : ByteArray} (h : checkF nm us = 0) (hi : sgnAt s us = none) : valueF nm us s = (0, 11) := by
  have hf := checkB_full h
  have hc : checkB nm us = true := by unfold checkF at h; split at h <;> simp_all
  have e : findU s (yl us 1 (by decide)) = none := by
    rw [findU_at, yl_units hf, hi]; rfl
  unfold valueF
  rw [hc, e]
  rfl
end Go.Proofs.YtmibpncmebhbjaaDoor
