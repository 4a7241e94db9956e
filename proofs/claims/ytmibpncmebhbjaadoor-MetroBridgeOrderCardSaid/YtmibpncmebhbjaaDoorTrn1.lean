/- Plain: bridges in another order, and turned. -/
import Derived.Test.YtmibpncmebhbjaaDoorBck1
namespace Go.Proofs.YtmibpncmebhbjaaDoor
open Go Go.RowKit Go.Shelf

def turnB (b : Br) : Br := ⟨b.B, b.SB, b.A, b.SA, b.D, b.N, b.hD, b.hN⟩
theorem lkR_le (k : Lk) : (lkR k).n ≤ 12 := by
  unfold lkR
  have h1 : 1 ≤ 1 + k.N % 12 := by omega
  have h2 : 1 + k.N % 12 ≤ 12 := by omega
  have h3 : 1 ≤ 1 + k.D % 12 := by omega
  have h4 : 1 + k.D % 12 ≤ 12 := by omega
  generalize 1 + k.N % 12 = a at *
  generalize 1 + k.D % 12 = b at *
  obtain ⟨n, rfl⟩ := Int.eq_ofNat_of_zero_le (show 0 ≤ a by omega)
  obtain ⟨d, rfl⟩ := Int.eq_ofNat_of_zero_le (show 0 ≤ b by omega)
  obtain ⟨e1, e2⟩ := lowest n d (by omega)
  have e : ratioF (n : Int) (d : Int) = fit ((n : Rat) / (d : Rat)) := if_neg (by omega)
  have l1 : n / Nat.gcd n d ≤ n := Nat.div_le_self _ _
  have l2 : d / Nat.gcd n d ≤ d := Nat.div_le_self _ _
  rw [e, fit_yes (by rw [e1, Int.natAbs_natCast]; omega) (by omega)]
  simp only
  omega
theorem isR_flip {N D : Int} (h : isR N D = true) (h0 : 0 < N) (h1 : N ≤ 1048576) : isR D N = true := by
  obtain ⟨a1, a2, a3, a4, a5⟩ := isR_iff.1 h
  exact isR_iff.2 ⟨by omega, by omega, by omega, by omega, by rw [Nat.gcd_comm]; exact a5⟩
theorem ratioF_flip {N D : Int} (h : isR N D = true) (h0 : 0 < N) (h1 : N ≤ 1048576) : ratioF D N = ⟨D, N, 0⟩ := by
  unfold ratioF
  rw [if_neg (by omega)]
  exact fit_rat (isR_flip h h0 h1)
theorem lk_flip (k : Lk) : ratioF (lkBr k).D (lkBr k).N = ⟨(lkBr k).D, (lkBr k).N, 0⟩ := ratioF_flip (lkR_isR k) (lkR_ok k).2 (by have := lkR_le k; show (lkR k).n ≤ _; omega)
theorem brE_turn (k : Lk) : brE (st0 fl) (turnB (lkBr k)) = 0 := by
  obtain ⟨a1, a2⟩ := idx_fl (m4_lt k.From)
  obtain ⟨b1, b2⟩ := idx_fl (m4_lt k.To)
  have e1 : idxE (st0 fl).ls (turnB (lkBr k)).A = 0 := b1
  have e2 : idxE (st0 fl).ls (turnB (lkBr k)).B = 0 := a1
  have i1 : brI (st0 fl) (turnB (lkBr k)) = m4 k.To := b2
  have i2 : brJ (st0 fl) (turnB (lkBr k)) = m4 k.From := a2
  have v1 : (brVa (st0 fl) (turnB (lkBr k))).2 = 0 := by unfold brVa; rw [i1, ladOf_fl (m4_lt _)]; exact value_fl (m4_lt _) (m4_lt _)
  have v2 : (brVb (st0 fl) (turnB (lkBr k))).2 = 0 := by unfold brVb; rw [i2, ladOf_fl (m4_lt _)]; exact value_fl (m4_lt _) (m4_lt _)
  have hd := (isR_bd (lkR_isR k)).1
  have r : (isR (turnB (lkBr k)).N (turnB (lkBr k)).D && decide (0 < (turnB (lkBr k)).N)) = true := by
    rw [Bool.and_eq_true]
    exact ⟨isR_flip (lkR_isR k) (lkR_ok k).2 (Int.le_trans (lkR_le k) (by decide)), decide_eq_true (show 0 < (lkR k).d by omega)⟩
  unfold brE
  rw [e1, e2, v1, v2, r]
  rfl
theorem own_turn {st : St} {b : Br} (h : brE st b = 0) : brOwn st (turnB b) * brOwn st b = 1 := by
  have h0 := brOwn_ne h
  have e : brOwn st (turnB b) = (brOwn st b)⁻¹ := by
    show ownQ b.D b.N (brVb st b).1 (brVa st b).1 = (ownQ b.N b.D (brVa st b).1 (brVb st b).1)⁻¹
    have h1 : ownQ b.N b.D (brVa st b).1 (brVb st b).1 ≠ 0 := h0
    unfold ownQ at h1 ⊢
    generalize ((brVa st b).1 : Rat) = x at *
    generalize ((brVb st b).1 : Rat) = y at *
    generalize (b.N : Rat) = u at *
    generalize (b.D : Rat) = v at *
    rw [Rat.div_def] at h1
    rw [Rat.div_def, Rat.div_def]
    have h2 : u * y ≠ 0 := by grind
    have h3 : (v * x)⁻¹ ≠ 0 := by grind
    have h4 : v * x ≠ 0 := by
      intro e
      rw [e] at h3
      simp at h3
    grind
  rw [e]
  exact Rat.inv_mul_cancel _ h0
/-- Each edge of es is one of fs, or one of fs in the other direction. -/
def Sub (es fs : List Ed) : Prop := ∀ e ∈ es, ∃ e' ∈ fs, e' = e ∨ (e'.i = e.j ∧ e'.j = e.i ∧ e'.q * e.q = 1)
theorem Sub.pot {es fs : List Ed} (h : Sub es fs) {φ : Nat → Rat} (hp : Pot fs φ) : Pot es φ := by
  refine ⟨hp.1, fun e he => ?_⟩
  obtain ⟨e', h1, rfl | ⟨h2, h3, h4⟩⟩ := h e he
  · exact hp.2 _ h1
  · have := hp.2 _ h1
    rw [h2, h3] at this
    have h5 : e.q * φ e.j = (e'.q * e.q) * φ e.i := by rw [this]; grind
    rw [h5, h4]; grind
theorem Sub.conn {es fs : List Ed} (h : Sub es fs) {a b : Nat} (c : Conn es a b) : Conn fs a b := by
  refine c.mono fun e he => ?_
  obtain ⟨e', h1, rfl | ⟨h2, h3, _⟩⟩ := h e he
  · exact .edge _ h1
  · have := Conn.edge _ h1
    rw [h2, h3] at this
    exact this.symm
/-- The bridges next are the bridges bs in another order, some of them turned. -/
structure Tn (bs next : List Br) : Prop where
  len : next.length = bs.length
  ok : ∀ x ∈ next, brE (st0 fl) x = 0
  fwd : Sub (bs.map (edOf (st0 fl))) (next.map (edOf (st0 fl)))
  bwd : Sub (next.map (edOf (st0 fl))) (bs.map (edOf (st0 fl)))
theorem Tn.nil : Tn [] [] := ⟨rfl, by simp, by simp [Sub], by simp [Sub]⟩
theorem Tn.step {bs next : List Br} (h : Tn bs next) {b x : Br} (hx : x = b ∨ x = turnB b) (hb : brE (st0 fl) b = 0) (hxe : brE (st0 fl) x = 0) (m : Nat) : Tn (bs ++ [b]) (next.take m ++ ([x] ++ next.drop m)) := by
  have mem : ∀ y, y ∈ next.take m ++ ([x] ++ next.drop m) ↔ y ∈ next ∨ y = x := fun y => by
    have e : y ∈ next ↔ y ∈ next.take m ∨ y ∈ next.drop m := by rw [← List.mem_append, List.take_append_drop]
    rw [e]
    simp only [List.mem_append, List.mem_singleton]
    constructor
    · rintro (h | h | h)
      · exact .inl (.inl h)
      · exact .inr h
      · exact .inl (.inr h)
    · rintro ((h | h) | h)
      · exact .inl h
      · exact .inr (.inr h)
      · exact .inr (.inl h)
  refine ⟨?_, fun y hy => ?_, fun e he => ?_, fun e he => ?_⟩
  · have e : (next.take m ++ next.drop m).length = next.length := by rw [List.take_append_drop]
    have := h.len
    simp only [List.length_append, List.length_singleton] at e ⊢
    omega
  · rcases (mem y).1 hy with hy | rfl
    · exact h.ok y hy
    · exact hxe
  · obtain ⟨y, hy, rfl⟩ := List.mem_map.1 he
    rcases List.mem_append.1 hy with hy | hy
    · obtain ⟨e', h1, h2⟩ := h.fwd _ (List.mem_map.2 ⟨y, hy, rfl⟩)
      obtain ⟨z, hz, rfl⟩ := List.mem_map.1 h1
      exact ⟨_, List.mem_map.2 ⟨z, (mem z).2 (.inl hz), rfl⟩, h2⟩
    · obtain rfl := List.mem_singleton.1 hy
      refine ⟨_, List.mem_map.2 ⟨x, (mem x).2 (.inr rfl), rfl⟩, ?_⟩
      rcases hx with rfl | rfl
      · exact .inl rfl
      · exact .inr ⟨rfl, rfl, own_turn hb⟩
  · obtain ⟨y, hy, rfl⟩ := List.mem_map.1 he
    rcases (mem y).1 hy with hy | rfl
    · obtain ⟨e', h1, h2⟩ := h.bwd _ (List.mem_map.2 ⟨y, hy, rfl⟩)
      obtain ⟨z, hz, rfl⟩ := List.mem_map.1 h1
      exact ⟨_, List.mem_map.2 ⟨z, List.mem_append.2 (.inl hz), rfl⟩, h2⟩
    · refine ⟨_, List.mem_map.2 ⟨b, List.mem_append.2 (.inr (by simp)), rfl⟩, ?_⟩
      rcases hx with rfl | rfl
      · exact .inl rfl
      · exact .inr ⟨rfl, rfl, by rw [Rat.mul_comm]; exact own_turn hb⟩
/-- A book out of bridges that are fine one by one. -/
theorem new_fine {bs : List Br} (hl : bs.length ≤ 6) (hb : ∀ b ∈ bs, brE (st0 fl) b = 0) : ((newF fl bs).1 = 0 ∧ (newF fl bs).2.ls = fl ∧ Good (newF fl bs).2 ∧ SpS (newF fl bs).2 (bs.map (edOf (st0 fl)))) ∨ ((newF fl bs).1 = 12 ∧ ∀ φ, ¬ Pot (bs.map (edOf (st0 fl))) φ) := by
  have e : newF fl bs = bridgesF (st0 fl) bs := by
    unfold newF
    rw [if_neg (by have : fl.length = 4 := rfl; omega), if_pos ladsE_fl]
  rw [e]
  have hg : Good (st0 fl) := good_st0 (by decide) check_fl
  have hls : (bridgesF (st0 fl) bs).2.ls = fl := bridgesF_ls _ _
  rcases spS_all hg (spS_st0 fl) hb with ⟨h1, h2, h3⟩ | ⟨h1, h2⟩
  · exact .inl ⟨h1, hls, h3, by simpa using h2⟩
  · exact .inr ⟨h1, fun φ => by simpa using h2 φ⟩
theorem brE_links (l : List Lk) : ∀ b ∈ linksB l, brE (st0 fl) b = 0 := fun b hb => by
  obtain ⟨k, _, rfl⟩ := List.mem_map.1 hb
  exact brE_lk k
theorem groupK_same {s t : St} (hs : s.ls = t.ls) {i : Nat} (h : ∀ k, k < s.ls.length → (grpAt s k = grpAt s i ↔ grpAt t k = grpAt t i)) (n : Nat) : groupK s i n = groupK t i n := by
  induction n with
  | zero => rfl
  | succ n ih =>
    rw [groupK, groupK, ih, ← hs]
    cases hn : s.ls[n]? with
    | none => rfl
    | some l =>
      have hlt := (List.getElem?_eq_some_iff.1 hn).1
      simp only [h n hlt]
theorem books_same {bs next : List Br} (h : Tn bs next) (hl : bs.length ≤ 6) (hb : ∀ b ∈ bs, brE (st0 fl) b = 0) :
    ((newF fl bs).1 = 0 ∧ (newF fl next).1 = 0 ∧ Good (newF fl bs).2 ∧ Good (newF fl next).2 ∧ (∀ a, a < 4 → groupF (newF fl bs).2 (nmF a) = groupF (newF fl next).2 (nmF a)) ∧ ∀ a b, a < 4 → b < 4 → factorF (newF fl bs).2 (nmF a) (nmF b) = factorF (newF fl next).2 (nmF a) (nmF b)) ∨ ((newF fl bs).1 = 12 ∧ (newF fl next).1 = 12) := by
  rcases new_fine hl hb with ⟨s1, s2, s3, s4⟩ | ⟨s1, s2⟩ <;> rcases new_fine (by have := h.len; omega) h.ok with ⟨t1, t2, t3, t4⟩ | ⟨t1, t2⟩
  · generalize (newF fl bs).2 = s at *
    generalize (newF fl next).2 = t at *
    have hl4 : s.ls.length = 4 := by rw [s2]; rfl
    have hm4 : t.ls.length = 4 := by rw [t2]; rfl
    have hg : ∀ a b, a < 4 → b < 4 → (grpAt s a = grpAt s b ↔ grpAt t a = grpAt t b) := fun a b ha hb' =>
      ⟨fun e => t4.of a b (h.fwd.conn (s4.on a b (by omega) (by omega) e)), fun e => s4.of a b (h.bwd.conn (t4.on a b (by omega) (by omega) e))⟩
    refine .inl ⟨s1, t1, s3, t3, fun a ha => ?_, fun a b ha hb' => ?_⟩
    · unfold groupF
      rw [s2, t2, (idx_fl ha).1, (idx_fl ha).2, if_pos rfl, if_pos rfl]
      exact groupK_same (by rw [s2, t2]) (fun k hk => hg k a (by omega) ha) _
    · rw [factor2 s s2 ha hb', factor2 t t2 ha hb']
      unfold facE
      by_cases e : grpAt s a = grpAt s b
      · rw [if_pos e, if_pos ((hg a b ha hb').1 e)]
        congr 1
        have c := s4.on a b (by omega) (by omega) e
        have hq := c.quot s4.pot (h.fwd.pot t4.pot)
        have f1 : ∀ (u : St), Good u → u.ls.length = 4 → ∀ k, k < 4 → u.fac.getD k 0 = facAt u k := fun u hu hul k hk => by
          have := hu.fac
          unfold facAt
          simp [List.getD, show k < u.fac.length by omega]
        unfold facQ
        rw [f1 s s3 hl4 a ha, f1 s s3 hl4 b hb', f1 t t3 hm4 a ha, f1 t t3 hm4 b hb']
        exact hq
      · rw [if_neg e, if_neg (fun k => e ((hg a b ha hb').2 k))]
  · exact absurd (h.bwd.pot s4.pot) (t2 _)
  · exact absurd (h.fwd.pot t4.pot) (s2 _)
  · exact .inr ⟨s1, t1⟩
theorem brsV_append (l m : List Br) : brsV (l ++ m) = brsV l ++ brsV m := by simp [brsV]
theorem brsV_take (l : List Br) (c : Nat) : brsV (l.take c) = (brsV l).take (c * 6) := by
  induction l generalizing c with
  | nil => simp [brsV]
  | cons r l ih =>
    cases c with
    | zero => simp [brsV]
    | succ c =>
      have e : brsV (r :: l) = brV r ++ brsV l := rfl
      have e2 : brsV ((r :: l).take (c + 1)) = brV r ++ brsV (l.take c) := rfl
      have h6 : (brV r).length = 6 := rfl
      have h7 : (brV r).take ((c + 1) * 6) = brV r := List.take_of_length_le (by omega)
      rw [e, e2, ih, List.take_append, h6, h7, show (c + 1) * 6 - 6 = c * 6 from by omega]
theorem brsV_drop (l : List Br) (c : Nat) : brsV (l.drop c) = (brsV l).drop (c * 6) := by
  induction l generalizing c with
  | nil => simp [brsV]
  | cons r l ih =>
    cases c with
    | zero => simp
    | succ c =>
      have e : brsV (r :: l) = brV r ++ brsV l := rfl
      have h6 : (brV r).length = 6 := rfl
      have h7 : (brV r).drop ((c + 1) * 6) = [] := List.drop_eq_nil_of_le (by omega)
      rw [e, List.drop_succ_cons, ih, List.drop_append, h6, h7, show (c + 1) * 6 - 6 = c * 6 from by omega]
      rfl
end Go.Proofs.YtmibpncmebhbjaaDoor
