/- Plain: the book of four ladders and links; factors along chains. -/
import Derived.Test.YtmibpncmebhbjaaDoorPot2
import Derived.Test.YtmibpncmebhbjaaDoorFou1
import Derived.Test.YtmibpncmebhbjaaDoorNam1
import Derived.Test.YtmibpncmebhbjaaDoorNam2
namespace Go.Proofs.YtmibpncmebhbjaaDoor
open Go Go.RowKit Go.Shelf

theorem find_fl {i : Nat} (h : i < 4) : findL (nmF i) fl 0 = some i := by
  have : i = 0 ∨ i = 1 ∨ i = 2 ∨ i = 3 := by omega
  rcases this with e | e | e | e <;> subst e <;> rfl
theorem idx_fl {i : Nat} (h : i < 4) : idxE fl (nmF i) = 0 ∧ idxI fl (nmF i) = i := by
  unfold idxE idxI
  rw [find_fl h]
  exact ⟨rfl, rfl⟩
theorem check_fl : ∀ l ∈ fl, checkF l.nm l.us = 0 := by
  have h : (fl.all fun l => checkF l.nm l.us == 0) = true := by kernel_rfl
  intro l hl
  simpa using List.all_eq_true.1 h l hl
theorem ladsE_fl : ladsE [] fl = 0 := by kernel_rfl
theorem value_fl {i j : Nat} (hi : i < 4) (hj : j < 4) : (valueF (laF i).nm (laF i).us (sgnB j)).2 = 0 := by
  have h : ((List.range 4).all fun i => (List.range 4).all fun j => (valueF (laF i).nm (laF i).us (sgnB j)).2 == 0) = true := by kernel_rfl
  have h1 := List.all_eq_true.1 h i (List.mem_range.2 hi)
  have h2 := List.all_eq_true.1 h1 j (List.mem_range.2 hj)
  simpa using h2
theorem ladOf_fl {i : Nat} (h : i < 4) : ladOf (st0 fl) i = ((laF i).nm, (laF i).us) := by
  have : i = 0 ∨ i = 1 ∨ i = 2 ∨ i = 3 := by omega
  rcases this with e | e | e | e <;> subst e <;> rfl
theorem brE_lk (k : Lk) : brE (st0 fl) (lkBr k) = 0 := by
  obtain ⟨a1, a2⟩ := idx_fl (m4_lt k.From)
  obtain ⟨b1, b2⟩ := idx_fl (m4_lt k.To)
  have e1 : idxE (st0 fl).ls (lkBr k).A = 0 := a1
  have e2 : idxE (st0 fl).ls (lkBr k).B = 0 := b1
  have i1 : brI (st0 fl) (lkBr k) = m4 k.From := a2
  have i2 : brJ (st0 fl) (lkBr k) = m4 k.To := b2
  have v1 : (brVa (st0 fl) (lkBr k)).2 = 0 := by unfold brVa; rw [i1, ladOf_fl (m4_lt _)]; exact value_fl (m4_lt _) (m4_lt _)
  have v2 : (brVb (st0 fl) (lkBr k)).2 = 0 := by unfold brVb; rw [i2, ladOf_fl (m4_lt _)]; exact value_fl (m4_lt _) (m4_lt _)
  have r : (isR (lkBr k).N (lkBr k).D && decide (0 < (lkBr k).N)) = true := by
    rw [Bool.and_eq_true]
    exact ⟨lkR_isR k, decide_eq_true (lkR_ok k).2⟩
  unfold brE
  rw [e1, e2, v1, v2, r]
  rfl
theorem linksB_length (l : List Lk) : (linksB l).length ≤ 6 := by simp [linksB]; omega
theorem newF_links (l : List Lk) : newF fl (linksB l) = bridgesF (st0 fl) (linksB l) := by
  unfold newF
  rw [if_neg (by have := linksB_length l; have : fl.length = 4 := rfl; omega), if_pos ladsE_fl]
/-- The book of links: fine, with a potential, or ErrBridge. -/
theorem new_links (l : List Lk) : ((newF fl (linksB l)).1 = 0 ∧ (newF fl (linksB l)).2.ls = fl ∧ Good (newF fl (linksB l)).2 ∧ SpS (newF fl (linksB l)).2 ((linksB l).map (edOf (st0 fl)))) ∨ ((newF fl (linksB l)).1 = 12 ∧ ∀ φ, ¬ Pot ((linksB l).map (edOf (st0 fl))) φ) := by
  rw [newF_links]
  have hg : Good (st0 fl) := good_st0 (by decide) check_fl
  have hb : ∀ b ∈ linksB l, brE (st0 fl) b = 0 := fun b hb => by
    obtain ⟨k, _, rfl⟩ := List.mem_map.1 hb
    exact brE_lk k
  have hls : (bridgesF (st0 fl) (linksB l)).2.ls = fl := bridgesF_ls _ _
  rcases spS_all hg (spS_st0 fl) hb with ⟨h1, h2, h3⟩ | ⟨h1, h2⟩
  · exact .inl ⟨h1, hls, h3, by simpa using h2⟩
  · exact .inr ⟨h1, fun φ => by simpa using h2 φ⟩
/-- Names by their numbers. -/
def nsF (p : List Nat) : List ByteArray := p.map nmF
theorem idxs_ns {p : List Nat} (h : ∀ i ∈ p, i < 4) : idxs fl (nsF p) = some p := by
  induction p with
  | nil => rfl
  | cons a p ih =>
    show (match findL (nmF a) fl 0 with | none => none | some i => (idxs fl (nsF p)).map (i :: ·)) = _
    rw [find_fl (h a (by simp)), ih (fun i hi => h i (by simp [hi]))]
    rfl
theorem along_tele {fac : List Rat} {p : List Nat} (hf : ∀ j, j < p.length → fac.getD (p.getD j 0) 0 ≠ 0) {k : Nat} (hk : k < p.length) : along fac p k = fac.getD (p.getD 0 0) 0 * (fac.getD (p.getD k 0) 0)⁻¹ := by
  induction k with
  | zero =>
    have := hf 0 hk
    unfold along
    grind
  | succ k ih =>
    have h1 := hf k (by omega)
    have h2 := hf (k + 1) hk
    have h3 := ih (by omega)
    unfold along
    rw [h3]
    grind
theorem fac_ne {st : St} {es : List Ed} (hs : SpS st es) {i : Nat} (hi : i < st.fac.length) : st.fac.getD i 0 ≠ 0 := by
  have := hs.pot.1 i
  unfold facAt at this
  simp [List.getD, hi] at this ⊢
  exact this
/-- The factor from a to b, by numbers. -/
def facQ (st : St) (a b : Nat) : Rat := st.fac.getD a 0 * (st.fac.getD b 0)⁻¹
def facE (st : St) (a b : Nat) : RR := if grpAt st a = grpAt st b then fit (facQ st a b) else ⟨0, 0, 13⟩
theorem along2 (st : St) (hls : st.ls = fl) {a b : Nat} (ha : a < 4) (hb : b < 4) : alongE st [nmF a, nmF b] = (if grpAt st a = grpAt st b then 0 else 13) ∧ (grpAt st a = grpAt st b → alongQ st [nmF a, nmF b] = facQ st a b) := by
  have h : idxs st.ls [nmF a, nmF b] = some [a, b] := by rw [hls]; exact idxs_ns (p := [a, b]) (fun i hi => by simp at hi; rcases hi with e | e <;> subst e <;> assumption)
  have hj : joinedB st.grp [a, b] = decide (grpAt st a = grpAt st b) := by simp [joinedB, grpAt]
  unfold alongE alongQ
  rw [h]
  simp only [hj]
  refine ⟨?_, fun hg => ?_⟩
  · by_cases hg : grpAt st a = grpAt st b <;> simp [hg]
  · rw [if_pos (decide_eq_true hg)]
    show along st.fac [a, b] 1 = _
    simp only [along, facQ, List.getD_cons_zero, List.getD_cons_succ]
    grind
theorem factor2 (st : St) (hls : st.ls = fl) {a b : Nat} (ha : a < 4) (hb : b < 4) : factorF st (nmF a) (nmF b) = facE st a b := by
  obtain ⟨h1, h2⟩ := along2 st hls ha hb
  unfold factorF facE
  rw [h1]
  by_cases hg : grpAt st a = grpAt st b
  · rw [if_pos hg, if_pos rfl, if_pos hg, h2 hg]
  · rw [if_neg hg, if_neg (by decide), if_neg hg]
theorem facE_apart {st : St} {a b : Nat} : (facE st a b).e = 13 ↔ grpAt st a ≠ grpAt st b := by
  unfold facE
  by_cases hg : grpAt st a = grpAt st b
  · rw [if_pos hg]
    constructor
    · intro h
      unfold fit at h
      split at h <;> simp at h
    · intro h; exact absurd hg h
  · rw [if_neg hg]; simp [hg]
theorem facE_err {st : St} {a b : Nat} (hg : grpAt st a = grpAt st b) : (facE st a b).e = 0 ∨ (facE st a b).e = 6 := by
  unfold facE
  rw [if_pos hg]
  unfold fit
  split
  · exact .inl rfl
  · exact .inr rfl
theorem chain_apart (st : St) (hls : st.ls = fl) {p : List Nat} (h4 : ∀ i ∈ p, i < 4) (h1 : 1 ≤ p.length) (h2 : p.length ≤ 64) {k : Nat} (hk : k + 1 < p.length) (hg : grpAt st (p.getD k 0) ≠ grpAt st (p.getD (k + 1) 0)) : chainF st (nsF p) = ⟨0, 0, 13⟩ := by
  have hj : joinedB st.grp p = false := by
    cases h : joinedB st.grp p with
    | false => rfl
    | true => exact absurd ((joinedB_iff _ _).1 h k (by omega)) hg
  have he : alongE st (nsF p) = 13 := by unfold alongE; rw [hls, idxs_ns h4]; simp [hj]
  unfold chainF
  rw [if_pos (by unfold chainE; rw [if_neg (by rw [show (nsF p).length = p.length by simp [nsF]]; omega), if_pos (by simpa [nsF] using h2)]), he, if_neg (by decide)]
theorem chain_joined (st : St) (hls : st.ls = fl) {es : List Ed} (hs : SpS st es) (hgd : Good st) {p : List Nat} (h4 : ∀ i ∈ p, i < 4) (h1 : 1 ≤ p.length) (h2 : p.length ≤ 64) (hg : ∀ k, k + 1 < p.length → grpAt st (p.getD k 0) = grpAt st (p.getD (k + 1) 0)) :
    chainF st (nsF p) = facE st (p.getD 0 0) (p.getD (p.length - 1) 0) ∧ grpAt st (p.getD 0 0) = grpAt st (p.getD (p.length - 1) 0) := by
  have hj : joinedB st.grp p = true := (joinedB_iff _ _).2 fun k hk => hg k (by omega)
  have hl : st.fac.length = 4 := by rw [hgd.fac, hls]; rfl
  have hgr : ∀ k, k < p.length → grpAt st (p.getD 0 0) = grpAt st (p.getD k 0) := by
    intro k
    induction k with
    | zero => intro _; rfl
    | succ k ih => intro hk; rw [ih (by omega), hg k hk]
  have hgl := hgr (p.length - 1) (by omega)
  have he : alongE st (nsF p) = 0 := by unfold alongE; rw [hls, idxs_ns h4]; simp [hj]
  have hq : alongQ st (nsF p) = facQ st (p.getD 0 0) (p.getD (p.length - 1) 0) := by
    unfold alongQ
    rw [hls, idxs_ns h4]
    simp only [hj, if_true]
    refine along_tele (fun j hj => fac_ne hs ?_) (by omega)
    rw [hl]
    refine h4 _ ?_
    simp [List.getD, hj]
  refine ⟨?_, hgl⟩
  unfold chainF facE
  rw [if_pos (by unfold chainE; rw [if_neg (by rw [show (nsF p).length = p.length by simp [nsF]]; omega), if_pos (by simpa [nsF] using h2)]), he, if_pos rfl, if_pos hgl, hq]
end Go.Proofs.YtmibpncmebhbjaaDoor
