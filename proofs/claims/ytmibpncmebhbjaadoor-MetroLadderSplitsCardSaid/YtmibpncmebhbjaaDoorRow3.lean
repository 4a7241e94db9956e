/- MetroLadderSplits: the walk. -/
import Derived.Test.YtmibpncmebhbjaaDoorP10
import Derived.Test.YtmibpncmebhbjaaDoorLad2
import Derived.Test.YtmibpncmebhbjaaDoorLad3
namespace Go.Proofs.YtmibpncmebhbjaaDoor
open Go Go.RowKit Go.Shelf
attribute [local go_sem] Oper.semAt_some rrV

set_option maxRecDepth 100000 in
set_option maxHeartbeats 2000000 in
theorem ladderSplits_any (nm : ByteArray) (hnm : (nm.size : Int) ≤ 9223372036854775807) (A : Option Addr) (c : Nat) (us : List Un) (n : Int) (s : ByteArray) (w : World) (hz : Zw w) (hsl : Sl w 2 (.slice A us.length c) (unitsV us)) (hn1 : -9223372036854775808 ≤ n) (hn2 : n ≤ 9223372036854775807) :
    Calls Tryd.prog 10 #[.agg #[.string nm, .slice A us.length c], .int .i64 n, .string s] w fun e w' => e = .returned (.bool true) ∧ Below w.heap.size w w' := by
  have hY := Cel.new w 33 #[.string nm, .slice A us.length c]
  have hB0 : Below w.heap.size w (w.alloc (.cells #[.string nm, .slice A us.length c] 33)) := below_alloc' _ _
  obtain ⟨W, hW⟩ : ∃ W, w.alloc (.cells #[.string nm, .slice A us.length c] 33) = W := ⟨_, rfl⟩
  rw [hW] at hY hB0
  have HB0 := Lib.hid hB0
  have HS : Hid (∀ w', Below W.heap.size W w' → Sl w' 2 (.slice A us.length c) (unitsV us)) := fun w' hb => (hsl.below hB0).below hb
  have HZ := Lib.hid (hz.below hB0)
  have HK : Hid (∀ w', Below W.heap.size W w' → w'.cell? ⟨w.heap.size, 0, none⟩ = some (.string nm) ∧ w'.cell? ⟨w.heap.size, 1, none⟩ = some (.slice A us.length c)) := fun w' hb => ⟨(hY.below hY.lt hb).cell 0 _ rfl, (hY.below hY.lt hb).cell 1 _ rfl⟩
  obtain ⟨a0, a1⟩ := HK.out W (Below.refl _ _)
  have C1 : Hid (∀ w', Below W.heap.size W w' → Calls Tryd.prog 53 #[.agg #[.string nm, .slice A us.length c], .int .i64 n] w' fun e w'' => ∃ v, e = .returned (.tuple #[v, .int .i64 (splitE nm us n)]) ∧ Sl w'' 1 v ((splitL nm us n).map (Value.int .i64)) ∧ Below w'.heap.size w' w'') := fun w' hb => Split_any nm hnm A c us n w' (HS.out w' hb) hn2
  have C2 : Hid (∀ w', Below W.heap.size W w' → Calls Tryd.prog 54 #[.agg #[.string nm, .slice A us.length c], .int .i64 n] w' fun e w'' => ∃ v, e = .returned (.tuple #[v, .int .i64 (splitE nm us n)]) ∧ Sl w'' 1 v ((splitL nm us n).map (Value.int .i64)) ∧ Below w'.heap.size w' w'') := fun w' hb => rsplit_any nm hnm A c us n w' (HS.out w' hb)
  have C3 : Hid (∀ w', Below W.heap.size W w' → Calls Tryd.prog 56 #[.agg #[.string nm, .slice A us.length c], .int .i64 n, .string s] w' fun e w'' => e = .returned (rrV (inF (valueF nm us s).1 (valueF nm us s).2 n)) ∧ Below w'.heap.size w' w'') := fun w' hb => in_any nm hnm A c us n s w' (HZ.out.below hb) (HS.out w' hb) hn1 hn2
  have C4 : Hid (∀ w', Below W.heap.size W w' → Calls Tryd.prog 57 #[.agg #[.string nm, .slice A us.length c], .int .i64 n, .string s] w' fun e w'' => e = .returned (rrV (inF (valueF nm us s).1 (valueF nm us s).2 n)) ∧ Below w'.heap.size w' w'') := fun w' hb => rin_any nm hnm A c us n s w' (HS.out w' hb) hn1 hn2
  have C5 : Hid (∀ w', Below W.heap.size W w' → Calls Tryd.prog 50 #[.agg #[.string nm, .slice A us.length c], .int .i64 n, .string s] w' fun e w'' => e = .returned (.tuple #[.int .i64 (roundF (valueF nm us s).1 (valueF nm us s).2 n).1, .int .i64 (roundF (valueF nm us s).1 (valueF nm us s).2 n).2]) ∧ Below w'.heap.size w' w'') := fun w' hb => round_any nm hnm A c us n s w' (HS.out w' hb) hn1 hn2
  have C6 : Hid (∀ w', Below W.heap.size W w' → Calls Tryd.prog 58 #[.agg #[.string nm, .slice A us.length c], .int .i64 n, .string s] w' fun e w'' => e = .returned (.tuple #[.int .i64 (roundF (valueF nm us s).1 (valueF nm us s).2 n).1, .int .i64 (roundF (valueF nm us s).1 (valueF nm us s).2 n).2]) ∧ Below w'.heap.size w' w'') := fun w' hb => rround_any nm hnm A c us n s w' (HS.out w' hb) hn1 hn2
  have C7 : Hid (∀ w', Below W.heap.size W w' → Calls Tryd.prog 27 #[] w' fun e w'' => e = .returned (.bool true) ∧ Below w'.heap.size w' w'') := fun w' hb => works_any w' (HZ.out.below hb)
  clear hsl hY hB0 hz
  generalize valueF nm us s = q at *
  generalize splitE nm us n = se at *
  generalize splitL nm us n = sl at *
  obtain ⟨v, e⟩ := q
  simp only at C3 C4 C5 C6
  generalize inF v e n = r at *
  generalize roundF v e n = q at *
  obtain ⟨rn, re⟩ := q
  obtain ⟨N, D, E⟩ := r
  simp only at C5 C6
  go_enter Tryd.func10, Tryd.ntmps10
  go_wp2_with (first
    | (go_at_call 53; refine (C1.out _ (Below.refl _ _)).mono ?_; rintro e w1 ⟨va, rfl, ha, hb⟩; have HA := Lib.hid ha; clear ha a0 a1; obtain ⟨a0, a1⟩ := HK.out _ hb)
    | (go_at_call 54; refine (C2.out _ hb).mono ?_; rintro e w2 ⟨vb, rfl, hvb, hb'⟩; have HA2 := Lib.hid (HA.out.below hb'); have HB2 := Lib.hid hvb; clear hvb a0 a1; have hb := below_then hb hb'; clear hb')
    | (go_at_call 55; refine ((eqInts_any va vb sl sl w2 HA2.out HB2.out).mono (R' := fun e w' => e = .returned (.bool true) ∧ Below w2.heap.size w2 w') (fun e w h => ⟨by simpa using h.1, h.2⟩)).mono ?_; rintro e w3 ⟨rfl, hb'⟩; have hb := below_then hb hb'; clear hb'; obtain ⟨a0, a1⟩ := HK.out _ hb)
    | (go_at_call 56; refine (C3.out _ hb).mono ?_; rintro e w4 ⟨rfl, hb'⟩; have hb := below_then hb hb'; clear hb' a0 a1; have hb := hb.alloc hb.size (.cells #[.int .i64 N, .int .i64 D] 23); obtain ⟨a0, a1⟩ := HK.out _ hb; have HY4 := Lib.hid (Cel.new w4 23 #[.int .i64 N, .int .i64 D]))
    | (go_at_call 57; refine (C4.out _ hb).mono ?_; rintro e w5 ⟨rfl, hb'⟩; have y4 := (HY4.out.below HY4.out.lt hb').alloc (.cells #[.int .i64 N, .int .i64 D] 23); have hb := below_then hb hb'; clear hb' a0 a1; have hb := hb.alloc hb.size (.cells #[.int .i64 N, .int .i64 D] 23); obtain ⟨a0, a1⟩ := HK.out _ hb; have y5 := Cel.new w5 23 #[.int .i64 N, .int .i64 D]; have g0 := y4.cell 0 (.int .i64 N) rfl; have g1 := y4.cell 1 (.int .i64 D) rfl; have g2 := y5.cell 0 (.int .i64 N) rfl; have g3 := y5.cell 1 (.int .i64 D) rfl; clear y4 y5)
    | (go_at_call 50; refine (C5.out _ hb).mono ?_; rintro e w6 ⟨rfl, hb'⟩; have hb := below_then hb hb'; clear hb' a0 a1 g0 g1 g2 g3; obtain ⟨a0, a1⟩ := HK.out _ hb)
    | (go_at_call 58; refine (C6.out _ hb).mono ?_; rintro e w7 ⟨rfl, hb'⟩; have hb := below_then hb hb'; clear hb' a0 a1)
    | (go_at_call 27; refine (C7.out _ hb).mono ?_; rintro e w8 ⟨rfl, hb'⟩; have hb := below_then hb hb'))
  go_ret
  exact ⟨rfl, below_then HB0.out hb⟩
end Go.Proofs.YtmibpncmebhbjaaDoor
