/- PeopleMustMay: the walk. Conditions: those stated. -/
import Derived.Test.YtdmcopjbckelmaaGreatDoorZH
namespace Go.Proofs.YtdmcopjbckelmaaGreatDoor
open Go Go.RowKit Go.Shelf
attribute [local go_sem] Oper.semAt_some

theorem none_of {o : Option Mat} (h : o.isSome = false) : o = none := by
  cases o with
  | none => rfl
  | some x => cases h
theorem mustE_bad {ps : List ByteArray} {fs : List Fa} {f : Fa} (h : mustE ps fs f ≠ 0) : mustV ps fs f = false ∧ (mustE ps fs f = 3 ∨ mustE ps fs f = 100 ∨ mustE ps fs f = 101) := by
  rcases checkF_cases ps fs with hc | hc | ⟨hc, _⟩
  · unfold mustE mustV; rw [hc]; exact ⟨rfl, .inl rfl⟩
  · unfold mustE mustV; rw [hc]; exact ⟨rfl, .inr (.inl rfl)⟩
  · have e1 : mustE ps fs f = if aboutB ps f then contraryF ps fs else 100 := by unfold mustE; rw [hc, if_neg (fun q => q rfl)]
    have e2 : mustV ps fs f = (aboutB ps f && mustF ps fs f) := by unfold mustV; rw [hc]; rfl
    rw [e1] at h ⊢
    rw [e2]
    cases ha : aboutB ps f with
    | false => exact ⟨rfl, .inr (.inl rfl)⟩
    | true =>
      cases hs : solveF ps fs with
      | none => exact ⟨by rw [must_none hs]; rfl, .inr (.inr (by rw [if_pos rfl, contrary_none hs]))⟩
      | some D => rw [ha, if_pos rfl, contrary_some hs] at h; exact absurd rfl h
theorem mustE_good {ps : List ByteArray} {fs : List Fa} {f : Fa} (h : mustE ps fs f = 0) : checkF ps fs = 0 ∧ aboutB ps f = true ∧ ∃ D, solveF ps fs = some D ∧ mustV ps fs f = mustB D ps f := by
  unfold mustE mustV at *
  by_cases hc : checkF ps fs = 0
  · rw [hc, if_neg (fun q => q rfl)] at h
    cases ha : aboutB ps f with
    | false => rw [ha] at h; cases h
    | true =>
      rw [ha, if_pos rfl] at h
      cases hs : solveF ps fs with
      | none => rw [contrary_none hs] at h; cases h
      | some D => exact ⟨hc, rfl, D, rfl, by rw [hc, must_some hs]; rfl⟩
  · rw [if_pos hc] at h
    exact absurd h hc
theorem mustV_ok {ps : List ByteArray} {fs : List Fa} {f : Fa} {D : Mat} (hc : checkF ps fs = 0) (ha : aboutB ps f = true) (hs : solveF ps fs = some D) : mustV ps fs f = mustB D ps f ∧ mustE ps fs f = 0 := by
  unfold mustE mustV
  rw [hc, ha, must_some hs, contrary_some hs]
  exact ⟨rfl, rfl⟩
theorem mayB_ok {ps : List ByteArray} {fs : List Fa} {f : Fa} (hc : checkF ps fs = 0) (ha : aboutB ps f = true) : mayB ps fs f = (solveF ps (fs ++ [f])).isSome ∧ factE ps fs f = 0 := by
  unfold mayB factE
  rw [hc, ha]
  exact ⟨rfl, rfl⟩
theorem about_turn {ps : List ByteArray} {k t : Int} {a b : ByteArray} (hk : k = 3) (h : aboutB ps ⟨k, a, b, t⟩ = true) : aboutB ps ⟨3, a, b, 0⟩ = true ∧ aboutB ps ⟨3, b, a, 0⟩ = true ∧ t = 0 := by
  obtain ⟨h1, h2, h3, h4⟩ := aboutB_iff.1 h
  simp only at h1 h2 h3 h4
  obtain ⟨g1, g2, g3⟩ := h3 (by omega)
  exact ⟨aboutB_iff.2 ⟨by simp only; omega, h2, fun _ => ⟨g1, g2, rfl⟩, fun q => absurd (by simp only; omega) q⟩, aboutB_iff.2 ⟨by simp only; omega, g2, fun _ => ⟨Ne.symm g1, h2, rfl⟩, fun q => absurd (by simp only; omega) q⟩, g3⟩
end Go.Proofs.YtdmcopjbckelmaaGreatDoor
