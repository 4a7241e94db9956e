/- Plain: amounts converted, and back. -/
import Derived.Test.YtmibpncmebhbjaaDoorAgr1
import Derived.Test.YtmibpncmebhbjaaDoorOrd1
namespace Go.Proofs.YtmibpncmebhbjaaDoor
open Go Go.RowKit Go.Shelf

theorem Conn.sign {es : List Ed} {f : Nat → Rat} (hf : Pot es f) (hq : ∀ e ∈ es, 0 < e.q) {a b : Nat} (c : Conn es a b) : 0 < f a ↔ 0 < f b := by
  induction c with
  | refl a => exact Iff.rfl
  | edge e he =>
    have h1 := hf.2 e he
    have h2 := hq e he
    rw [h1]
    constructor
    · intro h
      by_cases h3 : 0 < f e.j
      · exact h3
      · have h4 := hf.1 e.j
        have h5 : 0 < -f e.j := by grind
        have h6 := Rat.mul_pos h2 h5
        grind
    · intro h
      exact Rat.mul_pos h2 h
  | symm _ ih => exact ih.symm
  | trans _ _ ih1 ih2 => exact ih1.trans ih2
theorem brOwn_pos {st : St} {b : Br} (h : brE st b = 0) : 0 < brOwn st b := by
  obtain ⟨_, _, h1, h2, h3, h4⟩ := brE_zero h
  have p1 : 1 ≤ (brVa st b).1 := (valueF_pos (v := (brVa st b).1) (Prod.ext rfl h1)).1
  have p2 : 1 ≤ (brVb st b).1 := (valueF_pos (v := (brVb st b).1) (Prod.ext rfl h2)).1
  have hd := (isR_bd h3).1
  have c : ∀ m : Int, 1 ≤ m → (0 : Rat) < (m : Rat) := fun m hm => by exact_mod_cast (show (0 : Int) < m by omega)
  unfold brOwn ownQ
  rw [Rat.div_def]
  exact Rat.mul_pos (Rat.mul_pos (c _ (by omega)) (c _ p2)) (Rat.inv_pos.2 (Rat.mul_pos (c _ hd) (c _ p1)))
theorem facQ_pos {st : St} {es : List Ed} (hs : SpS st es) (hq : ∀ e ∈ es, 0 < e.q) (hgd : Good st) {a b : Nat} (ha : a < st.ls.length) (hb : b < st.ls.length) (hg : grpAt st a = grpAt st b) : 0 < facQ st a b := by
  have hsg := (hs.on a b ha hb hg).sign hs.pot hq
  have na := hs.pot.1 a
  have nb := hs.pot.1 b
  have ea : facAt st a = st.fac.getD a 0 := by unfold facAt; have := hgd.fac; simp [List.getD, show a < st.fac.length by omega]
  have eb : facAt st b = st.fac.getD b 0 := by unfold facAt; have := hgd.fac; simp [List.getD, show b < st.fac.length by omega]
  unfold facQ
  rw [← ea, ← eb]
  by_cases h : 0 < facAt st a
  · exact Rat.mul_pos h (Rat.inv_pos.2 (hsg.1 h))
  · have h' : ¬ 0 < facAt st b := fun k => h (hsg.2 k)
    have e : facAt st a * (facAt st b)⁻¹ = (-facAt st a) * (-facAt st b)⁻¹ := by grind
    rw [e]
    exact Rat.mul_pos (by grind) (Rat.inv_pos.2 (by grind))
theorem facQ_mul {st : St} {es : List Ed} (hs : SpS st es) (hgd : Good st) {a b c : Nat} (hb : b < st.ls.length) : facQ st a b * facQ st b c = facQ st a c := by
  have nb := fac_ne hs (i := b) (by rw [hgd.fac]; exact hb)
  unfold facQ
  grind
theorem facQ_self {st : St} {es : List Ed} (hs : SpS st es) (hgd : Good st) {a : Nat} (ha : a < st.ls.length) : facQ st a a = 1 := by
  have nb := fac_ne hs (i := a) (by rw [hgd.fac]; exact ha)
  unfold facQ
  grind
/-- An amount of ladder a in smallest units of ladder b. -/
def convG (st : St) (a : Nat) (n : Int) (b : Nat) : RR := if grpAt st a = grpAt st b then fit (facQ st a b * (n : Rat)) else ⟨0, 0, 13⟩
theorem conv2 (st : St) (hls : st.ls = fl) {a b : Nat} (ha : a < 4) (hb : b < 4) {n : Int} (h0 : 0 ≤ n) (h1 : n ≤ 1099511627776) : convF st (nmF a) n (nmF b) = convG st a n b := by
  obtain ⟨e1, e2⟩ := along2 st hls ha hb
  have hc : convE st (nmF a) n (nmF b) = 0 := by
    unfold convE
    rw [hls, (idx_fl ha).1, (idx_fl hb).1, rangeB_hi h0, decide_eq_true h1]
    rfl
  unfold convF convG
  rw [if_pos hc, e1]
  by_cases hg : grpAt st a = grpAt st b
  · rw [if_pos hg, if_pos rfl, if_pos hg, e2 hg]
    by_cases hn : n = 0
    · rw [if_pos hn, hn]
      have : facQ st a b * ((0 : Int) : Rat) = 0 := by have : ((0 : Int) : Rat) = 0 := rfl; rw [this]; grind
      rw [this, fit_zero]
    · rw [if_neg hn]
  · rw [if_neg hg, if_neg (by decide), if_neg hg]
theorem convG_e (st : St) (a : Nat) (n : Int) (b : Nat) : (convG st a n b).e = 0 ∨ (convG st a n b).e = 6 ∨ (convG st a n b).e = 13 := by
  unfold convG
  split
  · unfold fit
    split
    · exact .inl rfl
    · exact .inr (.inl rfl)
  · exact .inr (.inr rfl)
theorem convG_ok {st : St} {a b : Nat} {n : Int} (h : (convG st a n b).e = 0) : grpAt st a = grpAt st b ∧ isR (convG st a n b).n (convG st a n b).d = true ∧ rat (convG st a n b).n (convG st a n b).d = facQ st a b * (n : Rat) := by
  unfold convG at *
  by_cases hg : grpAt st a = grpAt st b
  · rw [if_pos hg] at h ⊢
    exact ⟨hg, fit_isR h⟩
  · rw [if_neg hg] at h; simp at h
theorem rat_one (n : Int) : rat n 1 = (n : Rat) := by
  unfold rat
  have : ((1 : Int) : Rat) = 1 := rfl
  rw [this]; grind
theorem isR_one {n : Int} (h0 : -1099511627776 ≤ n) (h1 : n ≤ 1099511627776) : isR n 1 = true := isR_iff.2 ⟨by decide, by decide, h0, h1, by simp⟩
theorem isR_zero' {D : Int} (h : isR 0 D = true) : D = 1 := by
  obtain ⟨h1, _, _, _, h5⟩ := isR_iff.1 h
  simp at h5
  omega
/-- Where the conversion is whole: back it is the same, and onwards it is the conversion at once. -/
theorem conv_back {st : St} (hls : st.ls = fl) {es : List Ed} (hs : SpS st es) (hq : ∀ e ∈ es, 0 < e.q) (hgd : Good st) {a b c : Nat} (ha : a < 4) (hb : b < 4) {n : Int} (h0 : 0 ≤ n) (h1 : n ≤ 1000000000)
    (he : (convG st a n b).e = 0) (hr : (convG st a n b).n % (convG st a n b).d = 0) :
    (convG st a n b).d = 1 ∧ 0 ≤ (convG st a n b).n ∧ (convG st a n b).n ≤ 1099511627776 ∧ convG st b (convG st a n b).n a = ⟨n, 1, 0⟩ ∧ convG st b (convG st a n b).n c = convG st a n c := by
  obtain ⟨hg, hi, hv⟩ := convG_ok he
  obtain ⟨_, f2, _, _, _⟩ := rat_floor hi
  rw [hr] at f2
  have hd := isR_zero' f2
  rw [hd] at hi hv
  rw [rat_one] at hv
  generalize (convG st a n b).n = m at *
  have hl : st.ls.length = 4 := by rw [hls]; rfl
  have hp := facQ_pos hs hq hgd (a := a) (b := b) (by omega) (by omega) hg
  have hbd := isR_bd hi
  have hm0 : 0 ≤ m := by
    have h2 : (0 : Rat) ≤ (n : Rat) := by exact_mod_cast h0
    have h3 : (0 : Rat) ≤ (m : Rat) := by rw [hv]; exact Rat.mul_nonneg (by grind) h2
    exact_mod_cast h3
  refine ⟨hd, hm0, hbd.2.2.2, ?_, ?_⟩
  · unfold convG
    rw [if_pos hg.symm, hv]
    have e1 : facQ st b a * (facQ st a b * (n : Rat)) = (n : Rat) := by
      have := facQ_mul hs hgd (a := b) (b := a) (c := b) (by omega)
      rw [facQ_self hs hgd (by omega)] at this
      have h4 : facQ st b a * (facQ st a b * (n : Rat)) = (facQ st b a * facQ st a b) * (n : Rat) := by grind
      rw [h4, this]; grind
    rw [e1, ← rat_one, fit_rat (isR_one (by omega) (by omega))]
  · unfold convG
    rw [hg]
    have e1 : facQ st b c * (m : Rat) = facQ st a c * (n : Rat) := by
      rw [hv]
      have := facQ_mul hs hgd (a := a) (b := b) (c := c) (by omega)
      rw [← this]; grind
    rw [e1]
theorem ed_pos (l : List Lk) : ∀ e ∈ (linksB l).map (edOf (st0 fl)), 0 < e.q := by
  intro e he
  obtain ⟨b, hb, rfl⟩ := List.mem_map.1 he
  obtain ⟨k, _, rfl⟩ := List.mem_map.1 hb
  exact brOwn_pos (brE_lk k)
end Go.Proofs.YtmibpncmebhbjaaDoor
