/- Cells of names and of numbers; lists filtered, step by step. No condition. -/
import Derived.Test.YtdmcopjbckelmaaGreatDoorZRB
namespace Go.Proofs.YtdmcopjbckelmaaGreatDoor
open Go Go.RowKit Go.Shelf

theorem names_at0 {w : World} {v : Value} {l : List ByteArray} (h : Sl w 1 v (namesV l)) : ∃ A c, v = .slice A l.length c ∧ l.length ≤ c ∧ (c : Int) ≤ 9223372036854775807 ∧ (0 < l.length → ∃ b o, A = some ⟨b, o, none⟩ ∧ b < w.heap.size ∧ ∀ (k : Nat) s, l[k]? = some s → w.cell? ⟨b, o + k, none⟩ = some (.string s)) := by
  obtain ⟨A, n, c, rfl, hl, hc, hm, hcl⟩ := h.open2 (by decide)
  rw [namesV_length] at hl
  obtain rfl : n = l.length := by omega
  refine ⟨A, c, rfl, hc, hm, fun hn => ?_⟩
  obtain ⟨b, o, rfl, hb, hce⟩ := hcl hn
  exact ⟨b, o, rfl, hb, fun k s hk => hce k _ (by simp [namesV, hk])⟩
theorem ints_at0 {w : World} {v : Value} {l : List Int} {n : Nat} (h : Sl w 1 v (l.map (Value.int .i64))) (hl : l.length = n) : ∃ A c, v = .slice A n c ∧ n ≤ c ∧ (c : Int) ≤ 9223372036854775807 ∧ (0 < n → ∃ b o, A = some ⟨b, o, none⟩ ∧ b < w.heap.size ∧ ∀ (k : Nat) x, l[k]? = some x → w.cell? ⟨b, o + k, none⟩ = some (.int .i64 x)) := by
  obtain ⟨A, m, c, rfl, hl', hc, hm, hcl⟩ := h.open2 (by decide)
  rw [List.length_map] at hl'
  obtain rfl : m = n := by omega
  refine ⟨A, c, rfl, hc, hm, fun hn => ?_⟩
  obtain ⟨b, o, rfl, hb, hce⟩ := hcl hn
  exact ⟨b, o, rfl, hb, fun k x hk => hce k _ (by simp [hk])⟩
theorem filt_snoc {ps : List ByteArray} {k : Nat} {s : ByteArray} (P : ByteArray → Bool) (h : ps[k]? = some s) : (ps.take (k + 1)).filter P = (ps.take k).filter P ++ (if P s then [s] else []) := by
  rw [List.take_add_one, h, List.filter_append]
  congr 1
  show [s].filter P = _
  cases hq : P s <;> simp [hq]
theorem filt_len (P : ByteArray → Bool) (ps : List ByteArray) (k : Nat) : ((ps.take k).filter P).length ≤ k :=
  Nat.le_trans (List.length_filter_le _ _) (by rw [List.length_take]; omega)
end Go.Proofs.YtdmcopjbckelmaaGreatDoor
