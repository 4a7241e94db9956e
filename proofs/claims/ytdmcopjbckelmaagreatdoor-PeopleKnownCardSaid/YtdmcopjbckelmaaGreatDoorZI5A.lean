/- What the walks of the reference's searches need: Walks of the reference: steps. Conditions: those stated. -/
import Derived.Test.YtdmcopjbckelmaaGreatDoorZH1
import Derived.Laws.MakeOwn
import Derived.Laws.Entries
import Derived.BigQuiet
namespace Go.Proofs.YtdmcopjbckelmaaGreatDoor
open Go Go.RowKit Go.Shelf
attribute [local go_sem] Oper.semAt_some

/-- Numbers as cells. -/
def vsI (l : List Int) : Array Value := (l.map (Value.int .i64)).toArray
theorem vsI_get {l : List Int} {m : Nat} {x : Int} (h : l[m]? = some x) : (vsI l)[m]? = some (.int .i64 x) := by
  unfold vsI
  rw [List.getElem?_toArray, List.getElem?_map, h]
  rfl
theorem vsI_set (l : List Int) (m : Nat) (x : Int) : (vsI l).setIfInBounds m (.int .i64 x) = vsI (l.set m x) := by
  unfold vsI
  rw [List.setIfInBounds_toArray, List.map_set]
theorem vsI_sl {w : World} {B : Nat} {t : TypeId} {l : List Int} {n : Nat} (h : Cel w B t (vsI l)) (hl : l.length = n) (hn : n ≤ 24) : Sl w 1 (.slice (some ⟨B, 0, none⟩) n n) (l.map (Value.int .i64)) := by
  refine ⟨_, n, n, rfl, by rw [List.length_map]; omega, Nat.le_refl _, by omega, fun _ => ⟨_, rfl, fun j u hj => ?_⟩⟩
  have e : (⟨B, 0, none⟩ : Addr).add j = ⟨B, j, none⟩ := by unfold Addr.add; split <;> simp_all
  rw [e]
  exact h.cell j u (by unfold vsI; rw [List.getElem?_toArray]; exact hj)
theorem made_ints (n : Nat) : madeCells (Value.int .i64 0).cells (n * 1) = vsI (List.replicate n 0) := by
  unfold vsI
  rw [List.map_replicate, Nat.mul_one]
  apply Array.ext'
  simp only [madeCells, Value.cells]
  refine List.ext_getElem? fun j => ?_
  by_cases hj : j < n <;> simp [hj, Nat.mod_one]
/-- The first pass. -/
def St1 (ps : List ByteArray) (a : ByteArray) (k : Nat) (out : List Int) : Prop := out.length = ps.length ∧ ∀ (m : Nat) (s : ByteArray), m < k → ps[m]? = some s → out[m]? = some (if s = a then 0 else -1)
theorem St1.next {ps : List ByteArray} {a : ByteArray} {k : Nat} {out : List Int} {s : ByteArray} {x : Int} (h : St1 ps a k out) (hs : ps[k]? = some s) (hx : x = if s = a then 0 else -1) : St1 ps a (k + 1) (out.set k x) := by
  have hk : k < ps.length := (List.getElem?_eq_some_iff.1 hs).1
  refine ⟨by rw [List.length_set]; exact h.1, fun m t hm ht => ?_⟩
  by_cases e : k = m
  · subst e
    rw [hs] at ht
    cases ht
    rw [List.getElem?_set_self (by rw [h.1]; exact hk), hx]
  · rw [List.getElem?_set_ne e]
    exact h.2 m t (by omega) ht
theorem tab_val {R : ByteArray → ByteArray → Prop} {a : ByteArray} {ps : List ByteArray} {k : Nat} {E : Nat → Nat → Prop} {out : List Int} (h : Tab R a ps k E out) {m : Nat} (hm : m < ps.length) : ∃ x : Int, out[m]? = some x ∧ (x = -1 ∨ (0 ≤ x ∧ x ≤ (k : Int) + 1)) := by
  rcases h.2 m ps[m] (List.getElem?_eq_getElem hm) with ⟨d, q1, q2, _⟩ | ⟨q1, _⟩
  · exact ⟨d, q1, .inr ⟨by omega, by omega⟩⟩
  · exact ⟨-1, q1, .inl rfl⟩
end Go.Proofs.YtdmcopjbckelmaaGreatDoor
