/- MetroLadderTotals: the walk. -/
import Derived.Test.YtmibpncmebhbjaaDoorP10
import Derived.Test.YtmibpncmebhbjaaDoorCar2
namespace Go.Proofs.YtmibpncmebhbjaaDoor
open Go Go.RowKit Go.Shelf
attribute [local go_sem] Oper.semAt_some rrV

set_option maxRecDepth 100000 in
set_option maxHeartbeats 2000000 in
theorem ladderTotals_any (nm : ByteArray) (hnm : (nm.size : Int) ≤ 9223372036854775807) (A : Option Addr) (c : Nat) (us : List Un) (cs : List Int) (A2 : Option Addr) (c2 : Nat) (w : World) (hz : Zw w) (hsl : Sl w 2 (.slice A us.length c) (unitsV us)) (hcs : Sl w 1 (.slice A2 cs.length c2) (cs.map (Value.int .i64))) (hbd : ∀ f ∈ cs, Bd f) (hlen : cs.length * 8 ≤ 140737488351232) :
    Calls Tryd.prog 17 #[.agg #[.string nm, .slice A us.length c], .slice A2 cs.length c2] w fun e w' => e = .returned (.bool true) ∧ Below w.heap.size w w' := by
  have hY := Cel.new w 33 #[.string nm, .slice A us.length c]
  have hB0 : Below w.heap.size w (w.alloc (.cells #[.string nm, .slice A us.length c] 33)) := below_alloc' _ _
  obtain ⟨W, hW⟩ : ∃ W, w.alloc (.cells #[.string nm, .slice A us.length c] 33) = W := ⟨_, rfl⟩
  rw [hW] at hY hB0
  have HB0 := Lib.hid hB0
  have HS : Hid (∀ w', Below W.heap.size W w' → Sl w' 2 (.slice A us.length c) (unitsV us)) := fun w' hb => (hsl.below hB0).below hb
  have HC : Hid (∀ w', Below W.heap.size W w' → Sl w' 1 (.slice A2 cs.length c2) (cs.map (Value.int .i64))) := fun w' hb => (hcs.below hB0).below hb
  have HZ := Lib.hid (hz.below hB0)
  have HK : Hid (∀ w', Below W.heap.size W w' → w'.cell? ⟨w.heap.size, 0, none⟩ = some (.string nm) ∧ w'.cell? ⟨w.heap.size, 1, none⟩ = some (.slice A us.length c)) := fun w' hb => ⟨(hY.below hY.lt hb).cell 0 _ rfl, (hY.below hY.lt hb).cell 1 _ rfl⟩
  obtain ⟨a0, a1⟩ := HK.out W (Below.refl _ _)
  have C0 := Lib.hid (copyInts_any A2 c2 cs W (HC.out W (Below.refl _ _)) (by omega))
  have C1 := Lib.hid (fun A3 c3 w' (hb : Below W.heap.size W w') (h : Sl w' 1 (.slice A3 cs.length c3) (cs.map (Value.int .i64))) => total_any nm hnm A c us A3 c3 cs w' (HS.out w' hb) h hbd)
  have C2 := Lib.hid (fun w' (hb : Below W.heap.size W w') => rtotal_any nm hnm A c us A2 c2 cs w' (HS.out w' hb) (HC.out w' hb) hbd)
  have C3 := Lib.hid (fun A3 c3 w' (hb : Below W.heap.size W w') (h : Sl w' 1 (.slice A3 cs.length c3) (cs.map (Value.int .i64))) => carry_any nm hnm A c us A3 c3 cs w' (HS.out w' hb) h hbd)
  have C4 := Lib.hid (fun w' (hb : Below W.heap.size W w') => rcarry_any nm hnm A c us A2 c2 cs w' (HS.out w' hb) (HC.out w' hb) hbd)
  have C5 : Hid (∀ (l : List Int) a b w', Sl w' 1 a (l.map (Value.int .i64)) → Sl w' 1 b (l.map (Value.int .i64)) → Calls Tryd.prog 55 #[a, b] w' fun e w'' => e = .returned (.bool true) ∧ Below w'.heap.size w' w'') := fun l a b w' h1 h2 => (eqInts_any a b l l w' h1 h2).mono fun e w h => ⟨by simpa using h.1, h.2⟩
  have C7 : Hid (∀ w', Below W.heap.size W w' → Calls Tryd.prog 27 #[] w' fun e w'' => e = .returned (.bool true) ∧ Below w'.heap.size w' w'') := fun w' hb => works_any w' (HZ.out.below hb)
  clear hsl hcs hY hB0 hz hbd hlen
  generalize totalF nm us cs = q at *
  obtain ⟨s, e⟩ := q
  generalize carryV nm us cs = q at *
  obtain ⟨la, lb, e2⟩ := q
  simp only at C1 C2 C3 C4
  go_enter Tryd.func17, Tryd.ntmps17
  go_wp2_with (first
    | (go_at_call 73; refine C0.out.mono ?_; rintro e w1 ⟨A3, c3, rfl, hb, h3⟩; have HO := Lib.hid h3; clear h3 a0 a1; obtain ⟨a0, a1⟩ := HK.out _ hb)
    | (go_at_call 64; refine (C1.out A3 c3 _ hb HO.out).mono ?_; rintro e w2 ⟨rfl, hb'⟩; have HO2 := Lib.hid (HO.out.below hb'); have hb := below_then hb hb'; clear hb' a0 a1; obtain ⟨a0, a1⟩ := HK.out _ hb)
    | (go_at_call 74; refine (C2.out _ hb).mono ?_; rintro e w3 ⟨rfl, hb'⟩; have HO3 := Lib.hid (HO2.out.below hb'); have hb := below_then hb hb'; clear hb' a0 a1; obtain ⟨a0, a1⟩ := HK.out _ hb)
    | (go_at_call 75; refine (C3.out A3 c3 _ hb HO3.out).mono ?_; rintro e w4 ⟨va, vb, rfl, ha, hvb, hb'⟩; have HO4 := Lib.hid (HO3.out.below hb'); have HA := Lib.hid ha; have HBB := Lib.hid hvb; clear ha hvb; have hb := below_then hb hb'; clear hb' a0 a1; obtain ⟨a0, a1⟩ := HK.out _ hb)
    | (go_at_call 76; refine (C4.out _ hb).mono ?_; rintro e w5 ⟨vp, vq, rfl, hp, hq, hb'⟩; have HO5 := Lib.hid (HO4.out.below hb'); have HA5 := Lib.hid (HA.out.below hb'); have HB5 := Lib.hid (HBB.out.below hb'); have HP := Lib.hid hp; have HQ := Lib.hid hq; clear hp hq; have hb := below_then hb hb'; clear hb' a0 a1)
    | (go_at_call_of 55 vp; refine (C5.out la va vp _ HA5.out HP.out).mono ?_; rintro e w6 ⟨rfl, hb'⟩; have HO6 := Lib.hid (HO5.out.below hb'); have HB6 := Lib.hid (HB5.out.below hb'); have HQ6 := Lib.hid (HQ.out.below hb'); have hb := below_then hb hb'; clear hb')
    | (go_at_call_of 55 vq; refine (C5.out lb vb vq _ HB6.out HQ6.out).mono ?_; rintro e w7 ⟨rfl, hb'⟩; have HO7 := Lib.hid (HO6.out.below hb'); have hb := below_then hb hb'; clear hb')
    | (go_at_call 55; refine (C5.out cs _ _ _ HO7.out (HC.out _ hb)).mono ?_; rintro e w8 ⟨rfl, hb'⟩; have hb := below_then hb hb'; clear hb')
    | (go_at_call 27; refine (C7.out _ hb).mono ?_; rintro e w9 ⟨rfl, hb'⟩; have hb := below_then hb hb'))
  go_ret
  exact ⟨rfl, below_then HB0.out hb⟩
end Go.Proofs.YtmibpncmebhbjaaDoor
