/- Plain: a book out of a list of bridges. -/
import Derived.Test.YtmibpncmebhbjaaDoorP9
import Derived.Test.YtmibpncmebhbjaaDoorPot1
namespace Go.Proofs.YtmibpncmebhbjaaDoor
open Go Go.RowKit

theorem spS_st0 (ls : List La) : SpS (st0 ls) [] := by
  refine Sp.start _ _ _ (fun a b ha hb hab => ?_) (fun k => ?_)
  · have ha' : a < ls.length := ha
    have hb' : b < ls.length := hb
    simp [grpAt, st0, List.getD, ha', hb'] at hab
    exact hab
  · by_cases h : k < ls.length
    · simp [facAt, st0, List.getD, h]
    · simp [facAt, st0, List.getD, h]
theorem Pot.of_append {es fs : List Ed} {f : Nat → Rat} (h : Pot (es ++ fs) f) : Pot es f := ⟨h.1, fun e he => h.2 e (by simp [he])⟩
theorem bridgesF_ls (st : St) (bs : List Br) : (bridgesF st bs).2.ls = st.ls := by
  induction bs generalizing st with
  | nil => rfl
  | cons b bs ih =>
    rw [bridgesF_cons]
    split
    · rw [ih, bridgeF_ls]
    · rfl
theorem edOf_map {st st' : St} (h : st.ls = st'.ls) (bs : List Br) : bs.map (edOf st) = bs.map (edOf st') := by
  have : edOf st = edOf st' := funext (edOf_ls h)
  rw [this]
theorem spS_all {st : St} {es : List Ed} {bs : List Br} (hg : Good st) (h : SpS st es) (hb : ∀ b ∈ bs, brE st b = 0) :
    ((bridgesF st bs).1 = 0 ∧ SpS (bridgesF st bs).2 (es ++ bs.map (edOf st)) ∧ Good (bridgesF st bs).2) ∨ ((bridgesF st bs).1 = 12 ∧ ∀ φ, ¬ Pot (es ++ bs.map (edOf st)) φ) := by
  induction bs generalizing st es with
  | nil => exact .inl ⟨rfl, (by rw [List.map_nil, List.append_nil]; exact h : SpS st (es ++ List.map (edOf st) [])), hg⟩
  | cons b bs ih =>
    rw [bridgesF_cons]
    rcases spS_step hg h (hb b (by simp)) with ⟨h1, h2⟩ | ⟨h1, h2, _⟩
    · rw [if_pos h1]
      have hls := bridgeF_ls st b
      have := ih (st := (bridgeF st b).2) (good_bridge st b hg) h2 (fun x hx => by rw [brE_ls hls]; exact hb x (by simp [hx]))
      rw [edOf_map hls] at this
      simpa using this
    · rw [if_neg (by rw [h1]; decide)]
      right
      refine ⟨h1, fun φ hp => h2 φ (Pot.of_append (fs := bs.map (edOf st)) (by simpa using hp))⟩
end Go.Proofs.YtmibpncmebhbjaaDoor
