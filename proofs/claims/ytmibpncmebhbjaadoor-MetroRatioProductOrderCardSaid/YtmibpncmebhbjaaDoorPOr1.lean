/- Plain: products in another order, and in parts. -/
import Derived.Test.YtmibpncmebhbjaaDoorFrac4
namespace Go.Proofs.YtmibpncmebhbjaaDoor
open Go Go.RowKit Go.Shelf

theorem prodQ_reverse (l : List (Int × Int)) : prodQ l.reverse = prodQ l := by
  induction l with
  | nil => rfl
  | cons r l ih =>
    rw [List.reverse_cons, prodQ_append, ih]
    simp only [prodQ]; grind
/-- The ratios that can be made of pairs. -/
def okRs (l : List (Int × Int)) : List (Int × Int) := l.filterMap fun r => if (ratioF r.1 r.2).e == 0 then some ((ratioF r.1 r.2).n, (ratioF r.1 r.2).d) else none
theorem okRs_yes {l : List (Int × Int)} {k : Nat} (h : k < l.length) (he : ((ratioF l[k].1 l[k].2).e == 0) = true) : okRs (l.take (k + 1)) = okRs (l.take k) ++ [((ratioF l[k].1 l[k].2).n, (ratioF l[k].1 l[k].2).d)] := by
  unfold okRs
  rw [take_snocP h, List.filterMap_append]
  congr 1
  rw [List.filterMap_cons, if_pos he]
  rfl
theorem okRs_no {l : List (Int × Int)} {k : Nat} (h : k < l.length) (he : ((ratioF l[k].1 l[k].2).e == 0) = false) : okRs (l.take (k + 1)) = okRs (l.take k) := by
  unfold okRs
  rw [take_snocP h, List.filterMap_append, List.filterMap_cons, if_neg (by rw [he]; decide)]
  simp
theorem okRs_length (l : List (Int × Int)) : (okRs l).length ≤ l.length := List.length_filterMap_le _ _
theorem ratioF_isR2 {n d : Int} (h : ((ratioF n d).e == 0) = true) : isR (ratioF n d).n (ratioF n d).d = true := by
  have h' : (ratioF n d).e = 0 := by simpa using h
  unfold ratioF at h' ⊢
  split at h'
  · simp at h'
  · next hd => rw [if_neg hd]; exact (fit_isR h').1
theorem okRs_isRs (l : List (Int × Int)) : isRs (okRs l) := by
  intro r hr
  obtain ⟨x, _, hx⟩ := List.mem_filterMap.1 hr
  split at hx
  · next h => injection hx with hx; subst hx; exact ratioF_isR2 h
  · cases hx
theorem isRs_sub {l m : List (Int × Int)} (h : isRs l) (hs : ∀ x ∈ m, x ∈ l) : isRs m := fun r hr => h r (hs r hr)
theorem isRs_bd {l : List (Int × Int)} (h : isRs l) : BdL l := fun r hr => by
  have := isR_bd (h r hr)
  unfold Bd; omega
theorem prodE_isRs {l : List (Int × Int)} (h : isRs l) (hl : l.length ≤ 64) : prodE l = fit (prodQ l) := prodE_good (by omega) (isRsB_iff.2 h)
theorem fit_err (q : Rat) : (fit q).e = 0 ∨ (fit q).e = 6 := by
  unfold fit
  split
  · exact .inl rfl
  · exact .inr rfl
theorem prodQ_parts (l : List (Int × Int)) (c : Nat) : prodQ (l.take c) * prodQ (l.drop c) = prodQ l := by rw [← prodQ_append, List.take_append_drop]
theorem rsV_append (l m : List (Int × Int)) : rsV (l ++ m) = rsV l ++ rsV m := by simp [rsV]
end Go.Proofs.YtmibpncmebhbjaaDoor
