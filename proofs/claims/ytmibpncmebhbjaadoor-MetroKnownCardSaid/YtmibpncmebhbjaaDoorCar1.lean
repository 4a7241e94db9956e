/- Plain: the carries. -/
import Derived.Test.YtmibpncmebhbjaaDoorTot1
namespace Go.Proofs.YtmibpncmebhbjaaDoor
open Go Go.RowKit Go.Shelf

def carryL : List Un → List Int → Int → List Int
  | _ :: u2 :: us, cs, c => (c + cs.headD 0) / u2.factor :: carryL (u2 :: us) cs.tail ((c + cs.headD 0) / u2.factor)
  | _, _, _ => []
theorem carryL_length (us : List Un) (cs : List Int) (c : Int) : (carryL us cs c).length = us.length - 1 := by
  induction us generalizing cs c with
  | nil => rfl
  | cons u us ih =>
    cases us with
    | nil => rfl
    | cons u2 us => simp only [carryL, List.length_cons]; rw [ih]; simp
/-- The count at a place: 0 where there is none. -/
def cntAt (cs : List Int) (i : Nat) : Int := cs.getD i 0
theorem headD_drop (cs : List Int) (i : Nat) : (cs.drop i).headD 0 = cntAt cs i := by
  unfold cntAt
  rw [List.getD, List.headD_eq_head?_getD, List.head?_drop]
theorem carryL_step {us : List Un} {i : Nat} (h : i + 1 < us.length) (cs : List Int) (c : Int) :
    carryL (us.drop i) (cs.drop i) c = (c + cntAt cs i) / us[i + 1].factor :: carryL (us.drop (i + 1)) (cs.drop (i + 1)) ((c + cntAt cs i) / us[i + 1].factor) := by
  rw [List.drop_eq_getElem_cons (by omega : i < us.length), List.drop_eq_getElem_cons h]
  simp only [carryL]
  rw [headD_drop, List.tail_drop]
theorem carryL_end {us : List Un} {i : Nat} (h : us.length ≤ i + 1) (cs : List Int) (c : Int) : carryL (us.drop i) (cs.drop i) c = [] := by
  by_cases h1 : i < us.length
  · rw [List.drop_eq_getElem_cons h1, List.drop_of_length_le h]; rfl
  · rw [List.drop_of_length_le (by omega)]; rfl
theorem cntAt_get {cs : List Int} {i : Nat} (h : i < cs.length) : cntAt cs i = cs[i] := by simp [cntAt, List.getD, List.getElem?_eq_getElem h]
theorem cntAt_none {cs : List Int} {i : Nat} (h : ¬ i < cs.length) : cntAt cs i = 0 := by simp [cntAt, List.getD, List.getElem?_eq_none (by omega : cs.length ≤ i)]
theorem sumP_le (Y : List UV) (cs : List Int) (s t : Int) (hc : ∀ c ∈ cs, 0 ≤ c) (h0 : 0 ≤ s) (h1 : s ≤ 1099511627776) (hl : cs.length ≤ Y.length) (h : sumP Y cs s = some t) : ∀ c ∈ cs, c ≤ 1099511627776 := by
  induction Y generalizing cs s with
  | nil =>
    have : cs = [] := List.eq_nil_of_length_eq_zero (by simpa using hl)
    subst this
    simp
  | cons y l ih =>
    cases cs with
    | nil => simp
    | cons c cs =>
      simp only [sumP] at h
      split at h
      · cases h
      · next hn =>
        have hs := sum_step h0 h1 (hc c (by simp)) y.h2.1 hn
        intro x hx
        rcases List.mem_cons.1 hx with rfl | hx
        · exact hs.2.2.2.2
        · exact ih cs _ (fun x hx => hc x (by simp [hx])) hs.2.2.1 hs.2.2.2.1 (by simpa using hl) h x hx
/-- What Total says where it says no error. -/
theorem total_ok {nm : ByteArray} {us : List Un} {cs : List Int} (h : (totalF nm us cs).2 = 0) :
    checkF nm us = 0 ∧ cs.length ≤ us.length ∧ (∀ c ∈ cs, 0 ≤ c ∧ c ≤ 1099511627776) ∧ sumP (yl us 1 (by decide)) cs 0 = some (totalF nm us cs).1 ∧ 0 ≤ (totalF nm us cs).1 ∧ (totalF nm us cs).1 ≤ 1099511627776 := by
  by_cases hE : totalE nm us cs = 0
  · obtain ⟨hc, hl⟩ := totalE_zero hE
    cases hn : negB cs with
    | true => rw [totalF_neg hE hn] at h; simp at h
    | false =>
      have hp := negB_all hn
      have e := totalF_sum hE hn
      cases hs : sumP (yl us 1 (by decide)) cs 0 with
      | none => rw [hs] at e; rw [e] at h; simp at h
      | some s =>
        rw [hs] at e
        rw [e]
        have hb := sumP_bd _ _ _ _ hp (by decide) (by decide) hs
        exact ⟨hc, hl, fun c hcm => ⟨hp c hcm, sumP_le _ _ _ _ hp (by decide) (by decide) (by rw [checkB_full hc]; exact hl) hs c hcm⟩, rfl, hb.1, hb.2⟩
  · rw [totalF_err hE] at h
    exact absurd h hE
theorem cntAt_bd {cs : List Int} (h : ∀ c ∈ cs, 0 ≤ c ∧ c ≤ 1099511627776) (i : Nat) : 0 ≤ cntAt cs i ∧ cntAt cs i ≤ 1099511627776 := by
  by_cases hi : i < cs.length
  · rw [cntAt_get hi]; exact h _ (List.getElem_mem _)
  · rw [cntAt_none hi]; decide
/-- What Carry returns: the counts, the carries, the error. -/
def carryV (nm : ByteArray) (us : List Un) (cs : List Int) : List Int × List Int × Int :=
  if (totalF nm us cs).2 = 0 then (splitF us (totalF nm us cs).1, carryL us cs 0, 0) else ([], [], (totalF nm us cs).2)
end Go.Proofs.YtmibpncmebhbjaaDoor
