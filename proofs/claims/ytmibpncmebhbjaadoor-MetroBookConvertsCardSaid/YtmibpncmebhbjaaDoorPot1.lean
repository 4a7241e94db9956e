/- Plain: books as potentials: bridges are edges with factors, a book's factors are a potential, its groups are what is connected. -/
import Derived.Test.YtmibpncmebhbjaaDoorP6
namespace Go.Proofs.YtmibpncmebhbjaaDoor
open Go Go.RowKit

/-- A bridge by numbers: so many of j is one of i. -/
structure Ed where
  i : Nat
  j : Nat
  q : Rat
inductive Conn (es : List Ed) : Nat → Nat → Prop
  | refl (a : Nat) : Conn es a a
  | edge (e : Ed) (h : e ∈ es) : Conn es e.i e.j
  | symm {a b : Nat} (h : Conn es a b) : Conn es b a
  | trans {a b c : Nat} (h : Conn es a b) (k : Conn es b c) : Conn es a c
theorem Conn.mono {es fs : List Ed} (h : ∀ e ∈ es, Conn fs e.i e.j) {a b : Nat} (c : Conn es a b) : Conn fs a b := by
  induction c with
  | refl a => exact .refl a
  | edge e he => exact h e he
  | symm _ ih => exact ih.symm
  | trans _ _ ih1 ih2 => exact ih1.trans ih2
def Pot (es : List Ed) (f : Nat → Rat) : Prop := (∀ k, f k ≠ 0) ∧ ∀ e ∈ es, f e.i = e.q * f e.j
theorem Conn.pots {es : List Ed} {f g : Nat → Rat} (hf : Pot es f) (hg : Pot es g) {a b : Nat} (c : Conn es a b) : f a * g b = f b * g a := by
  induction c with
  | refl a => rfl
  | edge e he =>
    rw [hf.2 e he, hg.2 e he]; grind
  | symm _ ih => grind
  | @trans a b c _ _ ih1 ih2 =>
    have h1 := hf.1 b
    have h2 := hg.1 b
    have h3 : (f b * g b) * (f a * g c) = (f b * g b) * (f c * g a) := by grind
    grind
theorem Conn.quot {es : List Ed} {f g : Nat → Rat} (hf : Pot es f) (hg : Pot es g) {a b : Nat} (c : Conn es a b) : f a * (f b)⁻¹ = g a * (g b)⁻¹ := by
  have h := c.pots hf hg
  have h1 := hf.1 b
  have h2 := hg.1 b
  grind
/-- What a book knows: of the first n ladders. -/
structure Sp (n : Nat) (es : List Ed) (g : Nat → Nat) (f : Nat → Rat) : Prop where
  rng : ∀ e ∈ es, e.i < n ∧ e.j < n
  pot : Pot es f
  on : ∀ a b, a < n → b < n → g a = g b → Conn es a b
  of : ∀ a b, Conn es a b → g a = g b
theorem Sp.congr {n : Nat} {es : List Ed} {g g' : Nat → Nat} {f f' : Nat → Rat} (h : Sp n es g f) (hg : ∀ k, k < n → g' k = g k) (hf : ∀ k, k < n → f' k = f k) (hn : ∀ k, f' k ≠ 0) : Sp n es g' f' := by
  refine ⟨h.rng, ⟨hn, fun e he => ?_⟩, fun a b ha hb hab => h.on a b ha hb (by rw [← hg a ha, ← hg b hb]; exact hab), fun a b c => ?_⟩
  · obtain ⟨h1, h2⟩ := h.rng e he
    rw [hf _ h1, hf _ h2]
    exact h.pot.2 e he
  · induction c with
    | refl a => rfl
    | edge e he =>
      obtain ⟨h1, h2⟩ := h.rng e he
      rw [hg _ h1, hg _ h2]
      exact h.of _ _ (.edge e he)
    | symm _ ih => exact ih.symm
    | trans _ _ ih1 ih2 => exact ih1.trans ih2
theorem rng_snoc {n : Nat} {es : List Ed} (h : ∀ e ∈ es, e.i < n ∧ e.j < n) (e : Ed) (hi : e.i < n) (hj : e.j < n) : ∀ x ∈ es ++ [e], x.i < n ∧ x.j < n := by
  intro x hx
  rcases List.mem_append.1 hx with hx | hx
  · exact h x hx
  · simp at hx; subst hx; exact ⟨hi, hj⟩
theorem Sp.same {n : Nat} {es : List Ed} {g : Nat → Nat} {f : Nat → Rat} (h : Sp n es g f) (e : Ed) (hi : e.i < n) (hj : e.j < n) (hg : g e.i = g e.j) (hf : f e.i = e.q * f e.j) : Sp n (es ++ [e]) g f := by
  have hc := h.on _ _ hi hj hg
  refine ⟨rng_snoc h.rng e hi hj, ⟨h.pot.1, fun x hx => ?_⟩, fun a b ha hb hab => (h.on a b ha hb hab).mono fun x hx => .edge x (by simp [hx]), fun a b c => h.of a b (c.mono fun x hx => ?_)⟩
  · rcases List.mem_append.1 hx with hx | hx
    · exact h.pot.2 x hx
    · simp at hx; subst hx; exact hf
  · rcases List.mem_append.1 hx with hx | hx
    · exact .edge x hx
    · simp at hx; subst hx; exact hc
theorem Sp.bad {n : Nat} {es : List Ed} {g : Nat → Nat} {f : Nat → Rat} (h : Sp n es g f) (e : Ed) (hi : e.i < n) (hj : e.j < n) (hg : g e.i = g e.j) (hf : ¬ f e.i = e.q * f e.j) (φ : Nat → Rat) : ¬ Pot (es ++ [e]) φ := by
  intro hp
  have hp' : Pot es φ := ⟨hp.1, fun x hx => hp.2 x (by simp [hx])⟩
  have c := (h.on _ _ hi hj hg).pots h.pot hp'
  have h2 := hp.2 e (by simp)
  have h3 := hp.1 e.j
  apply hf
  rw [h2] at c
  have h4 : f e.i * φ e.j = (e.q * f e.j) * φ e.j := by grind
  grind
theorem Sp.new {n : Nat} {es : List Ed} {g : Nat → Nat} {f : Nat → Rat} (h : Sp n es g f) (e : Ed) (hi : e.i < n) (hj : e.j < n) (hq : e.q ≠ 0) (hg : g e.i ≠ g e.j) :
    Sp n (es ++ [e]) (fun k => if g k = g e.i then g e.j else g k) (fun k => if g k = g e.i then f k * ((f e.i)⁻¹ * e.q * f e.j) else f k) := by
  have n1 := h.pot.1 e.i
  have n2 := h.pot.1 e.j
  refine ⟨rng_snoc h.rng e hi hj, ⟨fun k => ?_, fun x hx => ?_⟩, fun a b ha hb hab => ?_, fun a b c => ?_⟩
  · have := h.pot.1 k
    show (if g k = g e.i then f k * ((f e.i)⁻¹ * e.q * f e.j) else f k) ≠ 0
    split
    · intro e0
      have : (f e.i)⁻¹ ≠ 0 := by grind
      grind
    · exact this
  · show (if g x.i = g e.i then f x.i * ((f e.i)⁻¹ * e.q * f e.j) else f x.i) = x.q * (if g x.j = g e.i then f x.j * ((f e.i)⁻¹ * e.q * f e.j) else f x.j)
    rcases List.mem_append.1 hx with hx | hx
    · have hp := h.pot.2 x hx
      have hgx := h.of _ _ (.edge x hx)
      rw [hgx]
      split <;> rw [hp] <;> grind
    · simp at hx; subst hx
      rw [if_pos rfl, if_neg (fun e => hg e.symm)]
      grind
  · have up : ∀ a b, a < n → b < n → g a = g b → Conn (es ++ [e]) a b := fun a b ha hb hab => (h.on a b ha hb hab).mono fun x hx => .edge x (by simp [hx])
    have he : Conn (es ++ [e]) e.i e.j := .edge e (by simp)
    change (if g a = g e.i then g e.j else g a) = (if g b = g e.i then g e.j else g b) at hab
    by_cases h1 : g a = g e.i
    · by_cases h2 : g b = g e.i
      · exact up a b ha hb (h1.trans h2.symm)
      · rw [if_pos h1, if_neg h2] at hab
        exact ((up a e.i ha hi h1).trans he).trans (up e.j b hj hb hab)
    · by_cases h2 : g b = g e.i
      · rw [if_neg h1, if_pos h2] at hab
        exact ((up a e.j ha hj hab).trans he.symm).trans (up e.i b hi hb h2.symm)
      · rw [if_neg h1, if_neg h2] at hab
        exact up a b ha hb hab
  · induction c with
    | refl a => rfl
    | edge x hx =>
      show (if g x.i = g e.i then g e.j else g x.i) = (if g x.j = g e.i then g e.j else g x.j)
      rcases List.mem_append.1 hx with hx | hx
      · rw [h.of _ _ (.edge x hx)]
      · simp at hx; subst hx
        rw [if_pos rfl]
        split <;> rfl
    | symm _ ih => exact ih.symm
    | trans _ _ ih1 ih2 => exact ih1.trans ih2
theorem Sp.start (n : Nat) (g : Nat → Nat) (f : Nat → Rat) (hg : ∀ a b, a < n → b < n → g a = g b → a = b) (hf : ∀ k, f k ≠ 0) : Sp n [] g f := by
  refine ⟨fun _ h => absurd h List.not_mem_nil, ⟨hf, fun _ h => absurd h List.not_mem_nil⟩, fun a b ha hb hab => hg a b ha hb hab ▸ .refl _, fun a b c => ?_⟩
  induction c with
  | refl a => rfl
  | edge x hx => cases hx
  | symm _ ih => exact ih.symm
  | trans _ _ ih1 ih2 => exact ih1.trans ih2
/-- A book's state, its bridges being edges. -/
def SpS (st : St) (es : List Ed) : Prop := Sp st.ls.length es (grpAt st) (facAt st)
def edOf (st : St) (b : Br) : Ed := ⟨brI st b, brJ st b, brOwn st b⟩
theorem edOf_ls {st st' : St} (h : st.ls = st'.ls) (b : Br) : edOf st b = edOf st' b := by
  unfold edOf brOwn brVa brVb brI brJ ladOf
  rw [h]
theorem brE_ls {st st' : St} (h : st.ls = st'.ls) (b : Br) : brE st b = brE st' b := by
  unfold brE brVa brVb brI brJ ladOf
  rw [h]
theorem bridgeF_ls (st : St) (b : Br) : (bridgeF st b).2.ls = st.ls := by
  unfold bridgeF
  split
  · split <;> rfl
  · rfl
theorem firstF3_none {a b c : Int} (h : firstF [a, b, c] = 0) : a = 0 ∧ b = 0 ∧ c = 0 := by
  unfold firstF at h
  split at h
  · next h1 =>
    unfold firstF at h
    split at h
    · next h2 =>
      unfold firstF at h
      split at h
      · next h3 => exact ⟨h1, h2, h3⟩
      · next h3 => exact absurd h h3
    · next h2 => exact absurd h h2
  · next h1 => exact absurd h h1
theorem brE_zero {st : St} {b : Br} (h : brE st b = 0) : brI st b < st.ls.length ∧ brJ st b < st.ls.length ∧ (brVa st b).2 = 0 ∧ (brVb st b).2 = 0 ∧ isR b.N b.D = true ∧ 0 < b.N := by
  unfold brE at h
  split at h
  · next hi =>
    obtain ⟨a1, a2, a3⟩ := firstF3_none h
    have i1 : idxE st.ls b.A = 0 := by
      by_cases h1 : idxE st.ls b.A = 0
      · exact h1
      · simp [firstF, h1] at hi
    have i2 : idxE st.ls b.B = 0 := by
      by_cases h2 : idxE st.ls b.B = 0
      · exact h2
      · simp [firstF, i1, h2] at hi
    have a4 : (isR b.N b.D && decide (0 < b.N)) = true := by
      cases hb : (isR b.N b.D && decide (0 < b.N)) with
      | true => rfl
      | false => simp [needF, hb] at a3
    rw [Bool.and_eq_true] at a4
    exact ⟨idxI_lt i1, idxI_lt i2, a1, a2, a4.1, by simpa using a4.2⟩
  · next hi => exact absurd h hi
theorem brOwn_ne {st : St} {b : Br} (h : brE st b = 0) : brOwn st b ≠ 0 := by
  obtain ⟨_, _, h1, h2, h3, h4⟩ := brE_zero h
  have p1 : 1 ≤ (brVa st b).1 := (valueF_pos (v := (brVa st b).1) (Prod.ext rfl h1)).1
  have p2 : 1 ≤ (brVb st b).1 := (valueF_pos (v := (brVb st b).1) (Prod.ext rfl h2)).1
  have hd := (isR_bd h3).1
  have c : ∀ m : Int, 1 ≤ m → (m : Rat) ≠ 0 := fun m hm e => by
    have : m = 0 := by exact_mod_cast e
    omega
  have c1 := c _ p1
  have c2 := c _ p2
  have c3 := c _ hd
  have c4 := c b.N (by omega)
  unfold brOwn ownQ
  change (((b.N : Rat) * ((brVb st b).1 : Rat)) / ((b.D : Rat) * ((brVa st b).1 : Rat))) ≠ 0
  change ((brVa st b).1 : Rat) ≠ 0 at c1
  change ((brVb st b).1 : Rat) ≠ 0 at c2
  generalize ((brVa st b).1 : Rat) = x at *
  generalize ((brVb st b).1 : Rat) = y at *
  generalize (b.N : Rat) = u at *
  generalize (b.D : Rat) = v at *
  intro e
  rw [Rat.div_def] at e
  have h5 : (v * x) ≠ 0 := by grind
  have h6 : (v * x)⁻¹ ≠ 0 := by grind
  grind
/-- One bridge. -/
theorem spS_step {st : St} {es : List Ed} {b : Br} (hg : Good st) (h : SpS st es) (hb : brE st b = 0) :
    ((bridgeF st b).1 = 0 ∧ SpS (bridgeF st b).2 (es ++ [edOf st b])) ∨ ((bridgeF st b).1 = 12 ∧ (∀ φ, ¬ Pot (es ++ [edOf st b]) φ) ∧ grpAt st (brI st b) = grpAt st (brJ st b) ∧ ¬ facAt st (brI st b) = brOwn st b * facAt st (brJ st b)) := by
  obtain ⟨h1, h2, _⟩ := brE_zero hb
  have hq := brOwn_ne hb
  have n1 := h.pot.1 (brI st b)
  have n2 := h.pot.1 (brJ st b)
  unfold bridgeF
  rw [if_pos hb]
  by_cases hgr : grpAt st (brI st b) = grpAt st (brJ st b)
  · rw [if_pos hgr]
    by_cases hf : facAt st (brI st b) = brOwn st b * facAt st (brJ st b)
    · left
      refine ⟨?_, Sp.same h (edOf st b) h1 h2 hgr hf⟩
      have : facAt st (brI st b) * (facAt st (brJ st b))⁻¹ * (brOwn st b)⁻¹ = 1 := by rw [hf]; grind
      simp [needF, this]
    · right
      refine ⟨?_, fun φ => Sp.bad h (edOf st b) h1 h2 hgr hf φ, hgr, hf⟩
      have : ¬ facAt st (brI st b) * (facAt st (brJ st b))⁻¹ * (brOwn st b)⁻¹ = 1 := by
        intro e
        apply hf
        grind
      simp [needF, this]
  · rw [if_neg hgr]
    left
    refine ⟨rfl, ?_⟩
    have hN := Sp.new h (edOf st b) h1 h2 hq hgr
    refine hN.congr (fun k hk => ?_) (fun k hk => ?_) (fun k => ?_)
    · show (brGrp st b st.ls.length).getD k 0 = if grpAt st k = grpAt st (brI st b) then grpAt st (brJ st b) else grpAt st k
      have hl := hg.grp
      have hk' : k < st.ls.length := hk
      have := brGrp_get st b st.ls.length k (by omega)
      simp [List.getD, brGrp_length, show k < st.grp.length by omega, this, hk']
    · show (brFac st b st.ls.length).getD k 1 = if grpAt st k = grpAt st (brI st b) then facAt st k * brWay st b else facAt st k
      have hl := hg.fac
      have hk' : k < st.ls.length := hk
      have := brFac_get st b st.ls.length k (by omega)
      simp [List.getD, brFac_length, show k < st.fac.length by omega, this, hk']
    · show (brFac st b st.ls.length).getD k 1 ≠ 0
      have hl := hg.fac
      by_cases hk : k < st.ls.length
      · have := brFac_get st b st.ls.length k (by omega)
        have h0 := hN.pot.1 k
        have e : (brFac st b st.ls.length).getD k 1 = if grpAt st k = grpAt st (brI st b) then facAt st k * brWay st b else facAt st k := by
          simp [List.getD, brFac_length, show k < st.fac.length by omega, this, hk]
        rw [e]
        exact h0
      · simp [List.getD, brFac_length, show ¬ k < st.fac.length by omega]
end Go.Proofs.YtmibpncmebhbjaaDoor
