/- Plain: the reference's way to the shares of heirs. No condition. -/
import Derived.Test.YtdmcopjbckelmaaGreatDoorZS2
import Derived.Test.YtdmcopjbckelmaaGreatDoorZG8
namespace Go.Proofs.YtdmcopjbckelmaaGreatDoor
open Go Go.RowKit

/-- Nobody among the first so many heirs is older. -/
def elk (D : Mat) (ps l : List ByteArray) (s : ByteArray) (k : Nat) : Bool := (l.take k).all fun t => !youngerB D ps s t
theorem elk_zero (D : Mat) (ps l : List ByteArray) (s : ByteArray) : elk D ps l s 0 = true := by unfold elk; simp
theorem elk_succ {D : Mat} {ps l : List ByteArray} {s t : ByteArray} {k : Nat} (h : l[k]? = some t) : elk D ps l s (k + 1) = (elk D ps l s k && !youngerB D ps s t) := by
  unfold elk
  rw [List.take_add_one, h, List.all_append]
  simp
theorem elk_self {D : Mat} {ps l : List ByteArray} {s : ByteArray} {k : Nat} (h : l[k]? = some s) : elk D ps l s (k + 1) = elk D ps l s k := by
  rw [elk_succ h]
  unfold youngerB
  simp
theorem elk_other {D : Mat} {ps l : List ByteArray} {s t : ByteArray} {k : Nat} (h : l[k]? = some t) (hn : s ≠ t) : elk D ps l s (k + 1) = (elk D ps l s k && mustB D ps ⟨3, s, t, 0⟩) := by
  rw [elk_succ h]
  unfold youngerB
  rw [decide_eq_true hn, Bool.true_and, Bool.not_not]
theorem elk_all {D : Mat} {ps l : List ByteArray} {s : ByteArray} {k : Nat} (h : l.length ≤ k) : elk D ps l s k = !l.any (youngerB D ps s) := by
  unfold elk
  rw [List.take_of_length_le h, List.not_any_eq_all_not]
/-- The eldest of the first so many heirs, and how many there are. -/
def ElS (D : Mat) (ps l : List ByteArray) (i : Nat) (eldest : Int) (many : Nat) : Prop :=
  many = (elderF D ps l (l.take i)).length ∧ many ≤ i ∧ ((many = 0 ∧ eldest = -1) ∨ ∃ m : Nat, m < i ∧ eldest = (m : Int) ∧ ∃ r, l[m]? = some r ∧ (elderF D ps l (l.take i)).getLast? = some r)
theorem ElS.start (D : Mat) (ps l : List ByteArray) : ElS D ps l 0 (-1) 0 := ⟨by simp [elderF], Nat.le_refl _, .inl ⟨rfl, rfl⟩⟩
theorem ElS.yes {D : Mat} {ps l : List ByteArray} {i many : Nat} {eldest : Int} {s : ByteArray} (h : ElS D ps l i eldest many) (hi : l[i]? = some s) (he : elk D ps l s l.length = true) : ElS D ps l (i + 1) (i : Int) (many + 1) := by
  rw [elk_all (Nat.le_refl _)] at he
  have ha : l.any (youngerB D ps s) = false := by simpa using he
  obtain ⟨h1, h2, _⟩ := h
  have e := elderF_take (D := D) (ps := ps) (hs := l) hi
  rw [ha, if_neg (by simp)] at e
  refine ⟨by rw [e, List.length_append, h1]; rfl, by omega, .inr ⟨i, by omega, rfl, s, hi, ?_⟩⟩
  rw [e]
  simp
theorem ElS.no {D : Mat} {ps l : List ByteArray} {i many : Nat} {eldest : Int} {s : ByteArray} (h : ElS D ps l i eldest many) (hi : l[i]? = some s) (he : elk D ps l s l.length = false) : ElS D ps l (i + 1) eldest many := by
  rw [elk_all (Nat.le_refl _)] at he
  have ha : l.any (youngerB D ps s) = true := by simpa using he
  obtain ⟨h1, h2, h3⟩ := h
  have e := elderF_take (D := D) (ps := ps) (hs := l) hi
  rw [ha, if_pos rfl, List.append_nil] at e
  unfold ElS
  rw [e]
  refine ⟨h1, by omega, h3.elim .inl (fun q => .inr ?_)⟩
  obtain ⟨m, q1, q2, q3⟩ := q
  exact ⟨m, by omega, q2, q3⟩
/-- The eldest one, if there is a share of two parts. -/
def OwnS (fi : ByteArray) (l : List ByteArray) (eldest : Int) : Prop := ∀ (k : Nat) s, l[k]? = some s → ((k : Int) = eldest ↔ s = fi)
theorem own_none {l : List ByteArray} (hne : ¬ (⟨#[]⟩ : ByteArray) ∈ l) : OwnS ⟨#[]⟩ l (-1) := by
  intro k s hk
  refine ⟨fun q => by omega, fun q => absurd (List.mem_of_getElem? hk) (by rw [q]; exact hne)⟩
theorem nodup_at {l : List ByteArray} (hn : l.Nodup) {i k : Nat} {s : ByteArray} (hi : l[i]? = some s) (hk : l[k]? = some s) : i = k := by
  obtain ⟨a, e1⟩ := List.getElem?_eq_some_iff.1 hi
  obtain ⟨b, e2⟩ := List.getElem?_eq_some_iff.1 hk
  have hp := List.pairwise_iff_getElem.1 (List.nodup_iff_pairwise_ne.1 hn)
  rcases Nat.lt_trichotomy i k with z | z | z
  · exact absurd (e1.trans e2.symm) (hp i k a b z)
  · exact z
  · exact absurd (e2.trans e1.symm) (hp k i b a z)
/-- What the reference has at the end of its search. -/
theorem ElS.end_ {D : Mat} {ps l : List ByteArray} {eldest : Int} {many : Nat} (h : ElS D ps l l.length eldest many) (hn : l.Nodup) (hne : ¬ (⟨#[]⟩ : ByteArray) ∈ l) :
    (l.length < 2 ∨ many ≠ 1 → partsF l (elderF D ps l l) = l.length ∧ OwnS (firstF l (elderF D ps l l)) l (-1)) ∧
    (¬ (l.length < 2 ∨ many ≠ 1) → partsF l (elderF D ps l l) = l.length + 1 ∧ OwnS (firstF l (elderF D ps l l)) l eldest) := by
  obtain ⟨h1, h2, h3⟩ := h
  rw [List.take_of_length_le (Nat.le_refl _)] at h1 h3
  refine ⟨fun q => ?_, fun q => ?_⟩
  · have hc : ¬ (1 < l.length ∧ (elderF D ps l l).length = 1) := by omega
    unfold partsF firstF
    rw [if_neg hc, if_neg hc]
    exact ⟨rfl, own_none hne⟩
  · have hc : 1 < l.length ∧ (elderF D ps l l).length = 1 := by omega
    unfold partsF firstF
    rw [if_pos hc, if_pos hc]
    refine ⟨rfl, ?_⟩
    rcases h3 with ⟨z, _⟩ | ⟨m, q1, rfl, r, q3, q4⟩
    · omega
    · have hr : (elderF D ps l l).headD ⟨#[]⟩ = r := by
        match hx : elderF D ps l l, hc.2 with
        | [x], _ =>
          rw [hx] at q4
          simpa using q4
      rw [hr]
      intro k s hk
      constructor
      · intro e
        have e' : k = m := by omega
        rw [e', q3] at hk
        exact (Option.some.inj hk).symm
      · intro e
        rw [e] at hk
        have := nodup_at hn hk q3
        omega
theorem heirs_nodup (fs : List Fa) (a : ByteArray) : (childrenF fs a).Nodup := incS_nodup (setL_inc _)
end Go.Proofs.YtdmcopjbckelmaaGreatDoor
