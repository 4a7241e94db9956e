/- The reference's factors are the book's: plain. -/
import Derived.Test.YtmibpncmebhbjaaDoorRbk7
import Derived.Test.YtmibpncmebhbjaaDoorP9
namespace Go.Proofs.YtmibpncmebhbjaaDoor
open Go Go.RowKit Go.Shelf

theorem facD {st : St} {i : Nat} (hi : i < st.fac.length) : st.fac.getD i 0 = facAt st i := by
  unfold facAt
  simp [List.getD, hi]
theorem idxs_all {ls : List La} {names : List ByteArray} (h : ∀ nm ∈ names, idxE ls nm = 0) : idxs ls names = some (names.map (idxI ls)) := by
  induction names with
  | nil => rfl
  | cons a l ih =>
    have h1 := h a (by simp)
    unfold idxE at h1
    cases hf : findL a ls 0 with
    | none => rw [hf] at h1; simp [needF] at h1
    | some i =>
      simp only [idxs, hf, ih (fun x hx => h x (by simp [hx])), List.map_cons, idxI, Option.map_some, Option.getD_some]
theorem idxs_not {ls : List La} {names : List ByteArray} {nm : ByteArray} (hm : nm ∈ names) (h : idxE ls nm ≠ 0) : idxs ls names = none := by
  induction names with
  | nil => cases hm
  | cons a l ih =>
    rcases List.mem_cons.1 hm with rfl | hm
    · unfold idxE at h
      cases hf : findL nm ls 0 with
      | none => simp [idxs, hf]
      | some i => rw [hf] at h; simp [needF] at h
    · cases hf : findL a ls 0 with
      | none => simp [idxs, hf]
      | some i => simp [idxs, hf, ih hm]
theorem alongE_not {st : St} {names : List ByteArray} {nm : ByteArray} (hm : nm ∈ names) (h : idxE st.ls nm ≠ 0) : alongE st names = 4 := by
  unfold alongE; rw [idxs_not hm h]
/-- What a way shows. -/
theorem way_fac {st : St} {bs : List Br} (hd : BookD st bs) {i j : Nat} (hi : i < st.ls.length) (hj : j < st.ls.length) {l : List (Nat × Bool)} (hp : Path (bs.map (edOf st)) i l j) :
    grpAt st i = grpAt st j ∧ st.fac.getD i 0 * (st.fac.getD j 0)⁻¹ = pathQ (bs.map (edOf st)) l := by
  refine ⟨hd.sp.of i j hp.conn, ?_⟩
  have h1 := hp.pot hd.sp.pot
  have h2 := hd.sp.pot.1 j
  rw [facD (by rw [hd.good.fac]; exact hi), facD (by rw [hd.good.fac]; exact hj), h1]
  grind
theorem way_not {st : St} {bs : List Br} (hd : BookD st bs) {i j : Nat} (hi : i < st.ls.length) (hj : j < st.ls.length) (hn : ¬ Conn (bs.map (edOf st)) i j) : grpAt st i ≠ grpAt st j :=
  fun e => hn (hd.sp.on i j hi hj e)
/-- The state of a chain's walk behind k names. -/
structure ChD (st : St) (names : List ByteArray) (k : Nat) (U D : List Nat) : Prop where
  le : k ≤ names.length
  pos : 1 ≤ k
  jn : joined st.grp (names.map (idxI st.ls)) (k - 1)
  on : Ones U
  od : Ones D
  v : val U D = along st.fac (names.map (idxI st.ls)) (k - 1)
  lu : U.length ≤ k * 64
  ld : D.length ≤ k * 64
theorem idxN {ls : List La} {names : List ByteArray} {k : Nat} (h : k < names.length) : (names.map (idxI ls)).getD k 0 = idxI ls names[k] := by
  simp [List.getD, h]
theorem ChD.start {st : St} {names : List ByteArray} (h : 1 ≤ names.length) : ChD st names 1 [] [] :=
  ⟨h, Nat.le_refl _, fun j hj => absurd hj (by omega), Ones.nil, Ones.nil, by simp [val, prodN, along]; grind, by simp, by simp⟩
theorem ChD.step {st : St} {bs : List Br} {names : List ByteArray} {k : Nat} {U D : List Nat} (h : ChD st names k U D) (hd : BookD st bs) (hk : k < names.length) (hok : ∀ nm ∈ names, idxE st.ls nm = 0) {l : List (Nat × Bool)} (hl : l.length < st.ls.length)
    (hp : Path (bs.map (edOf st)) (idxI st.ls (names[k - 1]'(by omega))) l (idxI st.ls names[k])) : ChD st names (k + 1) (U ++ pUp st bs l) (D ++ pDn st bs l) := by
  have hlt : ∀ s ∈ l, s.1 < bs.length := fun s hs => by simpa using hp.lt s hs
  have hpos := h.pos
  obtain ⟨e1, e2⟩ := way_fac hd (idxI_lt (hok _ (List.getElem_mem _))) (idxI_lt (hok _ (List.getElem_mem hk))) hp
  obtain ⟨o1, o2⟩ := pUp_ones (l := l) hd.ok
  obtain ⟨l1, l2⟩ := pUp_len (st := st) hlt
  have few := hd.good.few
  refine ⟨hk, by omega, ?_, h.on.app o1, h.od.app o2, ?_, ?_, ?_⟩
  · intro j hj
    by_cases hjk : j < k - 1
    · exact h.jn j hjk
    · have : j = k - 1 := by omega
      subst this
      rw [idxN (by omega)]
      simp only [show k - 1 + 1 = k by omega, idxN hk]
      exact e1
  · rw [val_append h.od o2, h.v, pUp_val hd.ok hlt, ← e2]
    obtain ⟨m, rfl⟩ : ∃ m, k = m + 1 := ⟨k - 1, by omega⟩
    show _ = along st.fac _ m * _
    rw [idxN (by omega), idxN hk]
    rfl
  · have := h.lu; simp; omega
  · have := h.ld; simp; omega
theorem ChD.apart {st : St} {bs : List Br} {names : List ByteArray} {k : Nat} {U D : List Nat} (h : ChD st names k U D) (hd : BookD st bs) (hk : k < names.length) (hok : ∀ nm ∈ names, idxE st.ls nm = 0)
    (hn : ¬ Conn (bs.map (edOf st)) (idxI st.ls (names[k - 1]'(by omega))) (idxI st.ls names[k])) : alongE st names = 13 := by
  have hpos := h.pos
  have hne := way_not hd (idxI_lt (hok _ (List.getElem_mem _))) (idxI_lt (hok _ (List.getElem_mem hk))) hn
  unfold alongE
  rw [idxs_all hok]
  have : joinedB st.grp (names.map (idxI st.ls)) ≠ true := by
    rw [Ne, joinedB_iff]
    intro hj
    have := hj (k - 1) (by simp; omega)
    rw [idxN (by omega)] at this
    simp only [show k - 1 + 1 = k by omega, idxN hk] at this
    exact hne this
  simp [this]
theorem ChD.last {st : St} {names : List ByteArray} {U D : List Nat} (h : ChD st names names.length U D) (hok : ∀ nm ∈ names, idxE st.ls nm = 0) : alongE st names = 0 ∧ alongQ st names = val U D := by
  have hj : joinedB st.grp (names.map (idxI st.ls)) = true := (joinedB_iff _ _).2 (by simpa using h.jn)
  unfold alongE alongQ
  rw [idxs_all hok]
  simp only [hj, if_true, true_and]
  rw [h.v]
  simp
end Go.Proofs.YtmibpncmebhbjaaDoor
