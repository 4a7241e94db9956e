/- Plain: a bridge's error as the reference finds it. -/
import Derived.Test.YtmibpncmebhbjaaDoorWay1
namespace Go.Proofs.YtmibpncmebhbjaaDoor
open Go Go.RowKit

theorem firstF_one4 {a b : Int} (ha : a = 0 ∨ a = 4) (hb : b = 0 ∨ b = 4) (h : a ≠ 0 ∨ b ≠ 0) : firstF [a, b] = 4 := by
  rcases ha with rfl | rfl <;> rcases hb with rfl | rfl <;> simp [firstF] at *
theorem idxE_two (ls : List La) (nm : ByteArray) : idxE ls nm = 0 ∨ idxE ls nm = 4 := by
  by_cases h : idxE ls nm = 0
  · exact .inl h
  · exact .inr (atI_no h).2
theorem brE_none {st : St} {b : Br} (h : idxE st.ls b.A ≠ 0 ∨ idxE st.ls b.B ≠ 0) : brE st b = 4 := by
  have := firstF_one4 (idxE_two st.ls b.A) (idxE_two st.ls b.B) h
  unfold brE
  rw [this]; simp
theorem bridgeF_none {st : St} {b : Br} (h : idxE st.ls b.A ≠ 0 ∨ idxE st.ls b.B ≠ 0) : (bridgeF st b).1 = 4 := by
  have := brE_none h
  unfold bridgeF
  rw [if_neg (by rw [this]; decide), this]
theorem brE_in {st : St} {b : Br} (h1 : idxE st.ls b.A = 0) (h2 : idxE st.ls b.B = 0) : brE st b = firstF [(brVa st b).2, (brVb st b).2, needF (isR b.N b.D && decide (0 < b.N)) 2] := by
  unfold brE
  rw [h1, h2]
  rfl
theorem ladOf_lt {st : St} {k : Nat} (h : k < st.ls.length) : ladOf st k = (st.ls[k].nm, st.ls[k].us) := by
  unfold ladOf
  rw [List.getElem?_eq_getElem h]
theorem valueF_two {nm : ByteArray} {us : List Un} {s : ByteArray} (h : checkF nm us = 0) : ((valueF nm us s).2 = 0 ∧ 0 ≤ sgnI s us) ∨ ((valueF nm us s).2 = 11 ∧ sgnI s us < 0) := by
  cases hi : sgnAt s us with
  | none => right; rw [valueF_no h hi]; exact ⟨rfl, by simp [sgnI, hi]⟩
  | some i =>
    left
    obtain ⟨v, _, e⟩ := valueF_yes h hi
    rw [e]; exact ⟨rfl, by simp [sgnI, hi]⟩
theorem firstF_unit {a b c : Int} (ha : a = 0 ∨ a = 11) (hb : b = 0 ∨ b = 11) (h : a ≠ 0 ∨ b ≠ 0) : firstF [a, b, c] = 11 := by
  rcases ha with rfl | rfl <;> rcases hb with rfl | rfl <;> simp [firstF] at *
theorem bridgeF_unit {st : St} {b : Br} (hg : Good st) (h1 : idxE st.ls b.A = 0) (h2 : idxE st.ls b.B = 0)
    (h : sgnI b.SA (ladOf st (brI st b)).2 < 0 ∨ sgnI b.SB (ladOf st (brJ st b)).2 < 0) : (bridgeF st b).1 = 11 := by
  have i1 : brI st b < st.ls.length := idxI_lt h1
  have i2 : brJ st b < st.ls.length := idxI_lt h2
  have c1 := valueF_two (s := b.SA) (hg.ok _ (List.getElem_mem i1))
  have c2 := valueF_two (s := b.SB) (hg.ok _ (List.getElem_mem i2))
  have e : brE st b = 11 := by
    rw [brE_in h1 h2]
    unfold brVa brVb
    rw [ladOf_lt i1, ladOf_lt i2] at *
    refine firstF_unit ?_ ?_ ?_
    · rcases c1 with c | c
      · exact .inl c.1
      · exact .inr c.1
    · rcases c2 with c | c
      · exact .inl c.1
      · exact .inr c.1
    · rcases h with h | h
      · left
        rcases c1 with c | c
        · simp only at h; omega
        · rw [c.1]; decide
      · right
        rcases c2 with c | c
        · simp only at h; omega
        · rw [c.1]; decide
  unfold bridgeF
  rw [if_neg (by rw [e]; decide), e]
theorem br_vals {st : St} {b : Br} (hg : Good st) (h1 : idxE st.ls b.A = 0) (h2 : idxE st.ls b.B = 0)
    (h : ¬ sgnI b.SA (ladOf st (brI st b)).2 < 0) (h' : ¬ sgnI b.SB (ladOf st (brJ st b)).2 < 0) : (brVa st b).2 = 0 ∧ (brVb st b).2 = 0 := by
  have i1 : brI st b < st.ls.length := idxI_lt h1
  have i2 : brJ st b < st.ls.length := idxI_lt h2
  have c1 := valueF_two (s := b.SA) (hg.ok _ (List.getElem_mem i1))
  have c2 := valueF_two (s := b.SB) (hg.ok _ (List.getElem_mem i2))
  unfold brVa brVb
  rw [ladOf_lt i1, ladOf_lt i2] at *
  simp only at *
  exact ⟨by rcases c1 with c | c; exact c.1; omega, by rcases c2 with c | c; exact c.1; omega⟩
theorem bridgeF_arg {st : St} {b : Br} (hg : Good st) (h1 : idxE st.ls b.A = 0) (h2 : idxE st.ls b.B = 0)
    (h : ¬ sgnI b.SA (ladOf st (brI st b)).2 < 0) (h' : ¬ sgnI b.SB (ladOf st (brJ st b)).2 < 0) (hr : ¬ (isR b.N b.D = true ∧ 0 < b.N)) : (bridgeF st b).1 = 2 := by
  obtain ⟨v1, v2⟩ := br_vals hg h1 h2 h h'
  have e0 : (isR b.N b.D && decide (0 < b.N)) = false := by
    cases hb : (isR b.N b.D && decide (0 < b.N)) with
    | false => rfl
    | true => rw [Bool.and_eq_true] at hb; exact absurd ⟨hb.1, by simpa using hb.2⟩ hr
  have e : brE st b = 2 := by
    rw [brE_in h1 h2, v1, v2, e0]; rfl
  unfold bridgeF
  rw [if_neg (by rw [e]; decide), e]
theorem brE_good {st : St} {b : Br} (hg : Good st) (h1 : idxE st.ls b.A = 0) (h2 : idxE st.ls b.B = 0)
    (h : ¬ sgnI b.SA (ladOf st (brI st b)).2 < 0) (h' : ¬ sgnI b.SB (ladOf st (brJ st b)).2 < 0) (hr : isR b.N b.D = true) (hr' : 0 < b.N) : brE st b = 0 := by
  obtain ⟨v1, v2⟩ := br_vals hg h1 h2 h h'
  rw [brE_in h1 h2, v1, v2]
  simp [hr, hr', needF, firstF]
theorem bridgeF_apart {st : St} {es : List Ed} {b : Br} (h : SpS st es) (hb : brE st b = 0) (hn : ¬ Conn es (brI st b) (brJ st b)) : (bridgeF st b).1 = 0 := by
  obtain ⟨i1, i2, _⟩ := brE_zero hb
  unfold bridgeF
  rw [if_pos hb, if_neg (fun e => hn (h.on _ _ i1 i2 e))]
theorem bridgeF_path {st : St} {es : List Ed} {b : Br} {l : List (Nat × Bool)} (h : SpS st es) (hb : brE st b = 0) (hp : Path es (brI st b) l (brJ st b)) : (bridgeF st b).1 = needF (decide (pathQ es l * (brOwn st b)⁻¹ = 1)) 12 := by
  have e := hp.pot h.pot
  have n2 := h.pot.1 (brJ st b)
  have q : facAt st (brI st b) * (facAt st (brJ st b))⁻¹ = pathQ es l := by rw [e]; grind
  unfold bridgeF
  rw [if_pos hb, if_pos (h.of _ _ hp.conn), q]
end Go.Proofs.YtmibpncmebhbjaaDoor
