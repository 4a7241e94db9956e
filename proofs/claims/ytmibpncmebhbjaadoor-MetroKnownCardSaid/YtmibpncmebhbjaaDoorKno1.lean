/- MetroKnown: the closed numbers, computed. -/
import Derived.Test.YtmibpncmebhbjaaDoorMul3
import Derived.Test.YtmibpncmebhbjaaDoorFrac4
namespace Go.Proofs.YtmibpncmebhbjaaDoor
open Go Go.RowKit Go.Shelf

theorem kn_add : opF 1099511627776 1 1 1048576 (fit (rat 1099511627776 1 + rat 1 1048576)) = ⟨0, 0, 6⟩ := by kernel_rfl
theorem kn_mul : opF 1099511627776 1 2 1 (mulR 1099511627776 1 2 1) = ⟨0, 0, 6⟩ := by kernel_rfl
theorem kn_prod : prodE [(1099511627776, 1), (1099511627776, 1), (1, 1048576), (1, 1048576), (1, 1048576), (1, 1048576)] = ⟨1, 1, 0⟩ := by kernel_rfl
def unC (c : UInt8) (f : Int) (h : Bd f := by unfold Bd; decide) : Un := ⟨⟨#[c]⟩, f, by show ((1 : Nat) : Int) ≤ _; decide, h⟩
def longU : List Un := [unC 97 1, unC 98 32, unC 99 32, unC 100 32, unC 101 32, unC 102 32, unC 103 32, unC 104 32, unC 105 32]
def longN : ByteArray := ⟨#[108, 111, 110, 103]⟩
theorem kn_value : valueF longN longU ⟨#[105]⟩ = (1099511627776, 0) := by kernel_rfl
theorem kn_over : checkF longN (longU ++ [unC 106 2]) = 10 := by kernel_rfl
theorem kn_empty : checkF ⟨#[]⟩ [] = 10 := by kernel_rfl
section
variable {ops : Array Oper} {rest : List Oper} {o : Oper} {a : Act} {Q : Exit → Act → World → Prop} {w : World}
theorem appUn (s x : Operand) (hgd : o.guard = none) (ho : o.op = .call { callee := .builtin .append, args := #[s, x], argTypes := #[31, 31] })
    {base n : Nat} {v vx : Value} {xs news : List Value} (hs : a.eval s = v) (hx : a.eval x = vx) (hown : w.ownsRow base 78 2 v n xs) (hr : Sl w 2 vx news) (h1 : ∀ u ∈ news, u.oneCell' = true)
    {N : Nat} (hN : n * 2 + news.length = N * 2) (hb : N ≤ 4398046511) (hbase : base ≤ w.heap.size)
    (h : ∀ A c w', Appended base 78 2 v xs news w w' A N c → wpList Tryd.prog ops Q rest (a.put o.dst (.slice A N c)) w') : wpList Tryd.prog ops Q (o :: rest) a w := by
  obtain ⟨i, hi, hz0, hz1, hz2⟩ := info_parts infoUnit
  exact wpList_app w hgd s x 31 ho base 78 i (.agg #[.string ⟨#[]⟩, .int .i64 0]) 2 24 Tryd.underlying31 hi hz0 hz1 hz2 rfl (by decide) v n xs hs hown vx news hx hr h1 N hN (by omega) (by decide) hbase h
end
end Go.Proofs.YtmibpncmebhbjaaDoor
