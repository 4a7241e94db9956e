/- Plain: solutions of a network by the names of its people; two people taken as one. No condition. -/
import Derived.Test.YtdmcopjbckelmaaGreatDoorZD
import Derived.Test.YtdmcopjbckelmaaGreatDoorZF
import Derived.Test.YtdmcopjbckelmaaGreatDoorZE
namespace Go.Proofs.YtdmcopjbckelmaaGreatDoor
open Go Go.RowKit

/-- The condition of a fact, by names. -/
def condN (B E : ByteArray → Int) (f : Fa) : Prop :=
  if f.kind = 1 then B f.b - B f.a ≤ -12 ∧ B f.a - B f.b ≤ 80 ∧ B f.a - E f.b ≤ 1
  else if f.kind = 2 then B f.a - B f.b ≤ 40 ∧ B f.b - B f.a ≤ 40
  else if f.kind = 3 then B f.a - B f.b ≤ 0
  else if f.kind = 4 then B f.a ≤ f.at_ ∧ f.at_ ≤ B f.a
  else if f.kind = 5 then B f.a ≤ f.at_ - 10 ∧ f.at_ ≤ E f.a
  else if f.kind = 6 then B f.a ≤ f.at_ ∧ f.at_ ≤ E f.a
  else E f.a ≤ f.at_
def NSol (ps : List ByteArray) (fs : List Fa) (B E : ByteArray → Int) : Prop :=
  (∀ s ∈ ps, -4000 ≤ B s ∧ B s ≤ 4000 ∧ B s ≤ E s ∧ E s ≤ B s + 100) ∧ ∀ f ∈ fs, condN B E f
theorem sat_condN {ps : List ByteArray} {f : Fa} {t : Nat → Int} {B E : ByteArray → Int} (hf : aboutB ps f = true) (hB : ∀ s ∈ ps, B s = t (2 * posF ps s) - t 48) (hE : ∀ s ∈ ps, E s = t (2 * posF ps s + 1) - t 48) : Sat t (boundsF ps f) ↔ condN B E f := by
  obtain ⟨h1, h2, h3, _⟩ := aboutB_iff.1 hf
  have ba := hB _ h2
  have ea := hE _ h2
  unfold boundsF condN Sat
  by_cases k1 : f.kind = 1
  · have hb := (h3 (by omega)).2.1
    have bb := hB _ hb
    have eb := hE _ hb
    simp only [if_pos k1, List.mem_cons, List.not_mem_nil, or_false, forall_eq_or_imp, forall_eq]
    omega
  · by_cases k2 : f.kind = 2
    · have hb := (h3 (by omega)).2.1
      have bb := hB _ hb
      simp only [if_neg k1, if_pos k2, List.mem_cons, List.not_mem_nil, or_false, forall_eq_or_imp, forall_eq]
      omega
    · by_cases k3 : f.kind = 3
      · have hb := (h3 (by omega)).2.1
        have bb := hB _ hb
        simp only [if_neg k1, if_neg k2, if_pos k3, List.mem_cons, List.not_mem_nil, or_false, forall_eq]
        omega
      · simp only [if_neg k1, if_neg k2, if_neg k3]
        repeat' split
        all_goals
          simp only [List.mem_cons, List.not_mem_nil, or_false, forall_eq_or_imp, forall_eq]
          omega
theorem sat_mem {ps : List ByteArray} {fs : List Fa} {t : Nat → Int} : Sat t (fs.flatMap (boundsF ps)) ↔ ∀ f ∈ fs, Sat t (boundsF ps f) := by
  constructor
  · intro h f hf b hb
    exact h b (List.mem_flatMap.2 ⟨f, hf, hb⟩)
  · intro h b hb
    obtain ⟨f, hf, hb⟩ := List.mem_flatMap.1 hb
    exact h f hf b hb
theorem nsol_of {ps : List ByteArray} {fs : List Fa} {t : Nat → Int} (hp : ps.length ≤ 24) (h : AllAbout ps fs) (ht : SolN ps fs t) : NSol ps fs (fun s => t (2 * posF ps s) - t 48) (fun s => t (2 * posF ps s + 1) - t 48) := by
  obtain ⟨h1, h2⟩ := ht
  rw [sol_born hp] at h1
  refine ⟨fun s hs => ?_, fun f hf => (sat_condN (h f hf) (fun _ _ => rfl) (fun _ _ => rfl)).1 (sat_mem.1 h2 f hf)⟩
  have := h1 _ (posF_lt hs)
  simp only
  omega
theorem sol_of_nsol {ps : List ByteArray} {fs : List Fa} {B E : ByteArray → Int} (hp : ps.length ≤ 24) (h : AllAbout ps fs) (hs : NSol ps fs B E) : SolN ps fs (fun j => if j = 48 then 0 else if j % 2 = 0 then B (ps.getD (j / 2) ⟨#[]⟩) else E (ps.getD (j / 2) ⟨#[]⟩)) := by
  have key : ∀ s, s ∈ ps → ps.getD (posF ps s) ⟨#[]⟩ = s := by
    intro s hs
    rw [List.getD_eq_getElem?_getD, posF_get hs]
    rfl
  have e0 : ∀ m : Nat, 2 * m / 2 = m := fun m => by omega
  have e1 : ∀ m : Nat, (2 * m + 1) / 2 = m := fun m => by omega
  have tb : ∀ m : Nat, m < 24 → (fun j => if j = 48 then 0 else if j % 2 = 0 then B (ps.getD (j / 2) ⟨#[]⟩) else E (ps.getD (j / 2) ⟨#[]⟩)) (2 * m) = B (ps.getD m ⟨#[]⟩) := by
    intro m hm
    simp only
    rw [if_neg (by omega), if_pos (by omega), e0]
  have td : ∀ m : Nat, m < 24 → (fun j => if j = 48 then 0 else if j % 2 = 0 then B (ps.getD (j / 2) ⟨#[]⟩) else E (ps.getD (j / 2) ⟨#[]⟩)) (2 * m + 1) = E (ps.getD m ⟨#[]⟩) := by
    intro m hm
    simp only
    rw [if_neg (by omega), if_neg (by omega), e1]
  have to' : (fun j => if j = 48 then 0 else if j % 2 = 0 then B (ps.getD (j / 2) ⟨#[]⟩) else E (ps.getD (j / 2) ⟨#[]⟩)) 48 = 0 := rfl
  generalize (fun j => if j = 48 then 0 else if j % 2 = 0 then B (ps.getD (j / 2) ⟨#[]⟩) else E (ps.getD (j / 2) ⟨#[]⟩)) = t at *
  refine ⟨(sol_born hp t).2 fun m hm => ?_, sat_mem.2 fun f hf => ?_⟩
  · have hmem : ps.getD m ⟨#[]⟩ ∈ ps := by
      refine List.mem_of_getElem? (i := m) ?_
      rw [List.getD_eq_getElem?_getD, List.getElem?_eq_getElem hm]
      rfl
    have := hs.1 _ hmem
    rw [tb m (by omega), td m (by omega), to']
    omega
  · refine (sat_condN (h f hf) (fun s hs' => ?_) (fun s hs' => ?_)).2 (hs.2 f hf)
    · rw [tb _ (by have := posF_lt hs'; omega), key s hs', to']
      omega
    · rw [td _ (by have := posF_lt hs'; omega), key s hs', to']
      omega
/-- A network is consistent exactly if years by names solve it. -/
theorem isSome_nsol {ps : List ByteArray} {fs : List Fa} (hp : ps.length ≤ 24) (h : AllAbout ps fs) : (solveF ps fs).isSome = true ↔ ∃ B E, NSol ps fs B E := by
  constructor
  · intro e
    cases hs : solveF ps fs with
    | none => rw [hs] at e; cases e
    | some D => exact ⟨_, _, nsol_of hp h ((solveF_sol hp h hs _).1 ((solveF_good hp h hs).sol (In.org _)))⟩
  · rintro ⟨B, E, hN⟩
    cases hs : solveF ps fs with
    | some D => rfl
    | none => exact absurd (sol_of_nsol hp h hN) (solveF_no hp h hs _)
/-- Is a fact one about two people? -/
def bothB (a b : ByteArray) (f : Fa) : Bool := pairB f.kind && (decide (f.a = a ∧ f.b = b) || decide (f.a = b ∧ f.b = a))
def renS (a b s : ByteArray) : ByteArray := if s = b then a else s
def renF (a b : ByteArray) (f : Fa) : Fa := ⟨f.kind, renS a b f.a, renS a b f.b, f.at_⟩
/-- The facts in which two people are one; none: they are parent and child. -/
def mergeF (a b : ByteArray) : List Fa → Option (List Fa)
  | [] => some []
  | f :: l => if bothB a b f then (if f.kind = 1 then none else mergeF a b l) else (mergeF a b l).map (renF a b f :: ·)
def mergeP (b : ByteArray) (ps : List ByteArray) : List ByteArray := ps.filter fun s => !decide (s = b)
theorem renS_of {a b s : ByteArray} : (s = b ∧ renS a b s = a) ∨ (s ≠ b ∧ renS a b s = s) := by
  unfold renS
  by_cases e : s = b
  · exact .inl ⟨e, if_pos e⟩
  · exact .inr ⟨e, if_neg e⟩
theorem mergeP_mem {b : ByteArray} {ps : List ByteArray} {s : ByteArray} : s ∈ mergeP b ps ↔ s ∈ ps ∧ s ≠ b := by
  unfold mergeP
  rw [List.mem_filter]
  simp
theorem mergeF_none {a b : ByteArray} {fs : List Fa} : mergeF a b fs = none ↔ ∃ f ∈ fs, bothB a b f = true ∧ f.kind = 1 := by
  induction fs with
  | nil => simp [mergeF]
  | cons f l ih =>
    unfold mergeF
    by_cases h : bothB a b f = true
    · rw [if_pos h]
      by_cases k : f.kind = 1
      · rw [if_pos k]
        simp [h, k]
      · rw [if_neg k, ih]
        simp [k]
    · rw [if_neg h, Option.map_eq_none_iff, ih]
      simp [h]
theorem mergeF_mem {a b : ByteArray} {fs gs : List Fa} (h : mergeF a b fs = some gs) : ∀ g, g ∈ gs ↔ ∃ f ∈ fs, bothB a b f = false ∧ g = renF a b f := by
  induction fs generalizing gs with
  | nil => cases h; simp
  | cons f l ih =>
    unfold mergeF at h
    by_cases hb : bothB a b f = true
    · rw [if_pos hb] at h
      split at h
      · cases h
      · intro g
        rw [ih h g]
        simp [hb]
    · rw [if_neg hb] at h
      cases hm : mergeF a b l with
      | none => rw [hm] at h; cases h
      | some ms =>
        rw [hm] at h
        cases h
        intro g
        rw [List.mem_cons, ih hm g]
        simp only [List.mem_cons, exists_eq_or_imp]
        have hb' : bothB a b f = false := by simpa using hb
        simp [hb']
theorem mergeF_length {a b : ByteArray} {fs gs : List Fa} (h : mergeF a b fs = some gs) : gs.length ≤ fs.length := by
  induction fs generalizing gs with
  | nil => cases h; simp
  | cons f l ih =>
    unfold mergeF at h
    split at h
    · split at h
      · cases h
      · have := ih h; simp; omega
    · cases hm : mergeF a b l with
      | none => rw [hm] at h; cases h
      | some ms =>
        rw [hm] at h
        cases h
        have := ih hm
        simp; omega
theorem bothB_comm (a b : ByteArray) (f : Fa) : bothB a b f = bothB b a f := by
  unfold bothB
  rw [Bool.or_comm]
theorem merge_about {a b : ByteArray} {ps : List ByteArray} {f : Fa} (hab : a ≠ b) (hbe : b ≠ ByteArray.empty) (ha : a ∈ ps) (hf : aboutB ps f = true) (hb : bothB a b f = false) : aboutB (mergeP b ps) (renF a b f) = true := by
  obtain ⟨h1, h2, h3, h4⟩ := aboutB_iff.1 hf
  have mm : ∀ s, s ∈ ps → renS a b s ∈ mergeP b ps := by
    intro s hs
    rcases renS_of (a := a) (b := b) (s := s) with ⟨_, e⟩ | ⟨e1, e⟩
    · rw [e]; exact mergeP_mem.2 ⟨ha, hab⟩
    · rw [e]; exact mergeP_mem.2 ⟨hs, e1⟩
  refine aboutB_iff.2 ⟨h1, mm _ h2, fun q => ?_, fun q => ?_⟩
  · obtain ⟨g1, g2, g3⟩ := h3 q
    refine ⟨fun e => ?_, mm _ g2, g3⟩
    have hp : pairB f.kind = true := decide_eq_true ⟨h1.1, q⟩
    unfold bothB at hb
    rw [hp, Bool.true_and, Bool.or_eq_false_iff, decide_eq_false_iff_not, decide_eq_false_iff_not] at hb
    have e' : renS a b f.b = renS a b f.a := e
    rcases renS_of (a := a) (b := b) (s := f.b) with ⟨e1, e2⟩ | ⟨e1, e2⟩ <;> rcases renS_of (a := a) (b := b) (s := f.a) with ⟨e3, e4⟩ | ⟨e3, e4⟩ <;> rw [e2, e4] at e'
    · exact g1 (e1.trans e3.symm)
    · exact hb.1 ⟨e'.symm, e1⟩
    · exact hb.2 ⟨e3, e'⟩
    · exact g1 e'
  · obtain ⟨g1, g2, g3⟩ := h4 q
    refine ⟨?_, g2, g3⟩
    show renS a b f.b = ByteArray.empty
    rcases renS_of (a := a) (b := b) (s := f.b) with ⟨e1, e2⟩ | ⟨e1, e2⟩
    · exact absurd (e1.symm.trans g1) hbe
    · rw [e2]; exact g1
theorem lessB : ∀ x y : List UInt8, Op.bytesLess x y = decide (x < y)
  | [], [] => by simp [Op.bytesLess]
  | _ :: _, [] => by simp [Op.bytesLess]
  | [], _ :: _ => by simp [Op.bytesLess]
  | a :: x, b :: y => by
    unfold Op.bytesLess
    rw [lessB x y]
    simp only [List.cons_lt_cons_iff]
    by_cases h1 : a < b <;> by_cases h2 : a = b <;> by_cases h3 : x < y <;> simp [h1, h2, h3]
theorem namesOk_iff {ps : List ByteArray} : namesOk ps = true ↔ (∀ s ∈ ps, nameB s = true) ∧ ps.Pairwise (fun s t => s.toList < t.toList) := by
  have hd : ∀ i (h : i < ps.length), ps.getD i ByteArray.empty = ps[i] := fun i h => by
    rw [List.getD_eq_getElem?_getD, List.getElem?_eq_getElem h]
    rfl
  unfold namesOk
  rw [List.all_eq_true]
  simp only [List.mem_range]
  constructor
  · intro h
    have h1 : ∀ i (hi : i < ps.length), nameB ps[i] = true ∧ ∀ (h0 : 0 < i), (ps[i - 1]'(by omega)).toList < ps[i].toList := by
      intro i hi
      have := h i hi
      unfold okAt at this
      rw [hd i hi, Bool.and_eq_true, Bool.or_eq_true, decide_eq_true_eq] at this
      refine ⟨this.1, fun h0 => ?_⟩
      rcases this.2 with q | q
      · omega
      · rw [hd (i - 1) (by omega), lessB, decide_eq_true_eq] at q
        exact q
    refine ⟨fun s hs => ?_, List.pairwise_iff_getElem.2 fun i j hi hj hij => ?_⟩
    · obtain ⟨i, hi, rfl⟩ := List.getElem_of_mem hs
      exact (h1 i hi).1
    · induction j with
      | zero => omega
      | succ j ih =>
        have a := (h1 (j + 1) hj).2 (by omega)
        by_cases q : i = j
        · subst q; exact a
        · exact List.lt_trans (ih (by omega) (by omega)) a
  · rintro ⟨h1, h2⟩ i hi
    unfold okAt
    rw [hd i hi, Bool.and_eq_true, Bool.or_eq_true, decide_eq_true_eq]
    refine ⟨h1 _ (List.getElem_mem hi), ?_⟩
    by_cases h0 : i = 0
    · exact .inl h0
    · refine .inr ?_
      rw [hd (i - 1) (by omega), lessB, decide_eq_true_eq]
      exact List.pairwise_iff_getElem.1 h2 (i - 1) i (by omega) hi (by omega)
theorem namesOk_nodup {ps : List ByteArray} (h : namesOk ps = true) : ps.Nodup := by
  refine (namesOk_iff.1 h).2.imp fun {a b} hab e => ?_
  rw [e] at hab
  exact List.lt_irrefl _ hab
theorem nameB_ne {s : ByteArray} (h : nameB s = true) : s ≠ ByteArray.empty := by
  rintro rfl
  exact absurd h (by decide)
theorem merge_names {b : ByteArray} {ps : List ByteArray} (h : namesOk ps = true) : namesOk (mergeP b ps) = true := by
  obtain ⟨h1, h2⟩ := namesOk_iff.1 h
  exact namesOk_iff.2 ⟨fun s hs => h1 s (mergeP_mem.1 hs).1, h2.filter _⟩
theorem mergeP_length {b : ByteArray} {ps : List ByteArray} (hn : ps.Nodup) (hb : b ∈ ps) : (mergeP b ps).length + 1 = ps.length := by
  induction ps with
  | nil => cases hb
  | cons s l ih =>
    rw [List.nodup_cons] at hn
    unfold mergeP
    rw [List.filter_cons]
    by_cases e : s = b
    · subst e
      have : l.filter (fun t => !decide (t = s)) = l := by
        rw [List.filter_eq_self]
        intro t ht
        have : t ≠ s := fun q => hn.1 (q ▸ ht)
        simp [this]
      simp [this]
    · have hm : b ∈ l := by simpa [Ne.symm e] using hb
      have := ih hn.2 hm
      unfold mergeP at this
      simp only [e, decide_false, Bool.not_false, if_true, List.length_cons]
      omega
/-- The network in which two people are one is valid. -/
theorem merge_check {a b : ByteArray} {ps : List ByteArray} {fs gs : List Fa} (hc : checkF ps fs = 0) (hab : a ≠ b) (ha : a ∈ ps) (hb : b ∈ ps) (hm : mergeF a b fs = some gs) : checkF (mergeP b ps) gs = 0 := by
  rcases checkF_cases ps fs with q | q | ⟨_, hp, hf, hn, hA⟩
  · omega
  · omega
  · refine check_yes ?_ (merge_names hn) fun g hg => ?_
    · have := mergeP_length (namesOk_nodup hn) hb
      have := mergeF_length hm
      omega
    · obtain ⟨f, hf', hbo, rfl⟩ := (mergeF_mem hm g).1 hg
      exact merge_about hab (nameB_ne ((namesOk_iff.1 hn).1 b hb)) ha (hA f hf') hbo
theorem condN_ren (B E : ByteArray → Int) (a b : ByteArray) (f : Fa) : condN B E (renF a b f) ↔ condN (fun s => B (renS a b s)) (fun s => E (renS a b s)) f := Iff.rfl
/-- A solution for one person instead of two, turned round. -/
theorem merge_turn {a b : ByteArray} {ps : List ByteArray} {fs gs hs : List Fa} {B E : ByteArray → Int} (hab : a ≠ b) (ha : a ∈ ps) (h1 : mergeF a b fs = some gs) (h2 : mergeF b a fs = some hs) (hN : NSol (mergeP b ps) gs B E) : NSol (mergeP a ps) hs (fun s => if s = b then B a else B s) (fun s => if s = b then E a else E s) := by
  refine ⟨fun s hs' => ?_, fun g hg => ?_⟩
  · obtain ⟨hs1, hs2⟩ := mergeP_mem.1 hs'
    by_cases e : s = b
    · simp only [if_pos e]
      exact hN.1 a (mergeP_mem.2 ⟨ha, hab⟩)
    · simp only [if_neg e]
      exact hN.1 s (mergeP_mem.2 ⟨hs1, e⟩)
  · obtain ⟨f, hf, hbo, rfl⟩ := (mergeF_mem h2 g).1 hg
    rw [bothB_comm] at hbo
    have := hN.2 _ ((mergeF_mem h1 _).2 ⟨f, hf, hbo, rfl⟩)
    rw [condN_ren] at this ⊢
    have key : ∀ (Q : ByteArray → Int), (fun s => (fun s => if s = b then Q a else Q s) (renS b a s)) = fun s => Q (renS a b s) := by
      intro Q
      funext s
      simp only [renS]
      by_cases e1 : s = a
      · subst e1; simp [hab]
      · by_cases e2 : s = b
        · subst e2; simp [e1]
        · simp [e1, e2]
    rw [key B, key E]
    exact this
/-- If two people may be one, the network is consistent. -/
theorem merge_cons {a b : ByteArray} {ps : List ByteArray} {fs gs : List Fa} {B E : ByteArray → Int} (hab : a ≠ b) (ha : a ∈ ps) (h1 : mergeF a b fs = some gs) (hN : NSol (mergeP b ps) gs B E) : NSol ps fs (fun s => B (renS a b s)) (fun s => E (renS a b s)) := by
  refine ⟨fun s hs => ?_, fun f hf => ?_⟩
  · refine hN.1 _ ?_
    rcases renS_of (a := a) (b := b) (s := s) with ⟨_, e⟩ | ⟨e1, e⟩
    · rw [e]; exact mergeP_mem.2 ⟨ha, hab⟩
    · rw [e]; exact mergeP_mem.2 ⟨hs, e1⟩
  · cases hb : bothB a b f with
    | false => exact hN.2 _ ((mergeF_mem h1 _).2 ⟨f, hf, hb, rfl⟩)
    | true =>
      have hk : f.kind ≠ 1 := fun k => by
        have := mergeF_none.2 ⟨f, hf, hb, k⟩
        rw [this] at h1
        cases h1
      unfold bothB at hb
      rw [Bool.and_eq_true, Bool.or_eq_true, decide_eq_true_eq, decide_eq_true_eq] at hb
      obtain ⟨hp, hq⟩ := hb
      have hp : 1 ≤ f.kind ∧ f.kind ≤ 3 := of_decide_eq_true hp
      have ea : renS a b a = a := by unfold renS; rw [if_neg hab]
      have eb : renS a b b = a := if_pos rfl
      have e1 : B (renS a b f.a) = B a ∧ B (renS a b f.b) = B a := by
        rcases hq with ⟨q1, q2⟩ | ⟨q1, q2⟩ <;> rw [q1, q2, ea, eb] <;> exact ⟨rfl, rfl⟩
      unfold condN
      rw [if_neg hk]
      simp only [e1.1, e1.2]
      by_cases k2 : f.kind = 2
      · rw [if_pos k2]; omega
      · rw [if_neg k2, if_pos (by omega)]; omega
end Go.Proofs.YtdmcopjbckelmaaGreatDoor
