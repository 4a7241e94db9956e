/- PeopleFactsNarrow: the walk. Conditions: those stated. -/
import Derived.Test.YtdmcopjbckelmaaGreatDoorZV3
namespace Go.Proofs.YtdmcopjbckelmaaGreatDoor
open Go Go.RowKit Go.Shelf
attribute [local go_sem] Oper.semAt_some

theorem stepFactB {ops : Array Oper} {o : Oper} {a : Act} {K : Act → World → Prop} {Q : Exit → Act → World → Prop} {E : Prop} {w : World} (s x : Operand) (hgd : o.guard = none) (ho : o.op = .call { callee := .builtin .append, args := #[s, x], argTypes := #[23, 23] })
    {base n : Nat} {v vx : Value} {xs news : List Value} (hs : a.eval s = v) (hx : a.eval x = vx) (hown : w.ownsRow base 76 4 v n xs) (hr : Sl w 4 vx news) (h1 : ∀ u ∈ news, u.oneCell' = true)
    {N : Nat} (hN : n * 4 + news.length = N * 4) (hb : N * 48 ≤ 140737488355328) (hbase : base ≤ w.heap.size)
    (h : ∀ A c w', Appended base 76 4 v xs news w w' A N c → K (a.put o.dst (.slice A N c)) w') : if Region.wanted o (yielded ops a.tmps) = true then Oper.wp Tryz.prog o a w K Q else E := by
  obtain ⟨i, hi, hz0, hz1, hz2⟩ := info_parts infoFact
  exact step_app w hgd s x 23 ho base 76 i (.agg #[.int .i64 0, .string ⟨#[]⟩, .string ⟨#[]⟩, .int .i64 0]) 4 48 Tryz.underlying23 hi hz0 hz1 hz2 rfl (by decide) v n xs hs hown vx news hx hr h1 N hN hb (by decide) hbase h
theorem below_undrew {V w : World} (h : Below V.drew.heap.size V.drew w) : Below V.heap.size V w := ⟨h.os, h.tape, h.output, h.size, h.block⟩
theorem factE_good {ps : List ByteArray} {fs : List Fa} {f : Fa} (h : factE ps fs f = 0) : checkF ps fs = 0 ∧ aboutB ps f = true := by
  unfold factE at h
  by_cases hc : checkF ps fs = 0
  · rw [if_neg (fun q => q hc)] at h
    cases ha : aboutB ps f with
    | true => exact ⟨hc, rfl⟩
    | false => rw [ha] at h; cases h
  · rw [if_pos hc] at h
    exact absurd h hc
theorem about_snoc {ps : List ByteArray} {fs : List Fa} {x : Fa} (h : AllAbout ps fs) (hx : aboutB ps x = true) : AllAbout ps (fs ++ [x]) := fun f hf => by
  rcases List.mem_append.1 hf with q | q
  · exact h f q
  · rw [List.mem_singleton.1 q]; exact hx
theorem lit_plain {fs : List Fa} {k t : Int} {a b : ByteArray} {u : Value} (h : u ∈ fasV fs ++ [.int .i64 k, .string a, .string b, .int .i64 t]) (A : Option Addr) (n c : Nat) : u ≠ .slice A n c := by
  rcases List.mem_append.1 h with q | q
  · exact fas_plain q A n c
  · simp only [List.mem_cons, List.not_mem_nil, or_false] at q
    rcases q with rfl | rfl | rfl | rfl <;> intro e <;> cases e
theorem fas_one {l : List Fa} : ∀ u ∈ fasV l, u.oneCell' = true := by
  intro u h
  unfold fasV at h
  obtain ⟨f, _, hu⟩ := List.mem_flatMap.1 h
  unfold faV at hu
  simp only [List.mem_cons, List.not_mem_nil, or_false] at hu
  rcases hu with rfl | rfl | rfl | rfl <;> rfl
theorem fas_snoc (fs : List Fa) (f : Fa) : fasV (fs ++ [f]) = fasV fs ++ faV f := by simp [fasV]
end Go.Proofs.YtdmcopjbckelmaaGreatDoor
