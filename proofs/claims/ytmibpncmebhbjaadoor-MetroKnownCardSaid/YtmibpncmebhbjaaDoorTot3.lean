/- The walk of metro's Total. -/
import Derived.Test.YtmibpncmebhbjaaDoorTot1
import Derived.Test.YtmibpncmebhbjaaDoorP6
import Derived.Test.YtmibpncmebhbjaaDoorRound
namespace Go.Proofs.YtmibpncmebhbjaaDoor
open Go Go.RowKit Go.Shelf
attribute [local go_sem] Oper.semAt_some

theorem OwnFrom.or {β : Type} {B : Nat} {I I' : β → World → Prop} (h : OwnFrom B I) (h' : OwnFrom B I') : OwnFrom B (fun s W => I s W ∨ I' s W) := fun s W W' row hs hg hr => hs.imp (fun k => h s W W' row k hg hr) (fun k => h' s W W' row k hg hr)

set_option maxRecDepth 100000 in
set_option maxHeartbeats 2000000 in
theorem total_err (nm : ByteArray) (hnm : (nm.size : Int) ≤ 9223372036854775807) (A : Option Addr) (c : Nat) (us : List Un) (A2 : Option Addr) (c2 : Nat) (cs : List Int) (w : World) (hsl : Sl w 2 (.slice A us.length c) (unitsV us)) (hcs : Sl w 1 (.slice A2 cs.length c2) (cs.map (Value.int .i64))) (hE : ¬ totalE nm us cs = 0) :
    Calls Tryd.prog 64 #[.agg #[.string nm, .slice A us.length c], .slice A2 cs.length c2] w fun e w' => e = .returned (.tuple #[.int .i64 (totalF nm us cs).1, .int .i64 (totalF nm us cs).2]) ∧ Below w.heap.size w w' := by
  obtain ⟨_, _, e, hlc2, hcm2, hcl2⟩ := hcs.open1
  simp only [List.length_map] at e hlc2
  cases e
  have Y0 := (((Cel.new w 33 #[.string nm, .slice A us.length c]).alloc (.cells #[.slice A2 cs.length c2] 75)).alloc (.cells #[.int .i64 0] 3)).alloc (.cells #[.int .i64 0] 24)
  have Y1 := ((Cel.at (w.alloc (.cells #[.string nm, .slice A us.length c] 33)) (w.heap.size + 1) 75 #[.slice A2 cs.length c2] (by simp)).alloc (.cells #[.int .i64 0] 3)).alloc (.cells #[.int .i64 0] 24)
  have Y2 := (Cel.at ((w.alloc (.cells #[.string nm, .slice A us.length c] 33)).alloc (.cells #[.slice A2 cs.length c2] 75)) (w.heap.size + 1 + 1) 3 #[.int .i64 0] (by simp)).alloc (.cells #[.int .i64 0] 24)
  have Y3 := Cel.at (((w.alloc (.cells #[.string nm, .slice A us.length c] 33)).alloc (.cells #[.slice A2 cs.length c2] 75)).alloc (.cells #[.int .i64 0] 3)) (w.heap.size + 1 + 1 + 1) 24 #[.int .i64 0] (by simp)
  have hB0 : Below w.heap.size w ((((w.alloc (.cells #[.string nm, .slice A us.length c] 33)).alloc (.cells #[.slice A2 cs.length c2] 75)).alloc (.cells #[.int .i64 0] 3)).alloc (.cells #[.int .i64 0] 24)) := (((below_alloc' _ _).alloc (by simp) _).alloc (by simp; omega) _).alloc (by simp; omega) _
  obtain ⟨W, hW⟩ : ∃ W, ((((w.alloc (.cells #[.string nm, .slice A us.length c] 33)).alloc (.cells #[.slice A2 cs.length c2] 75)).alloc (.cells #[.int .i64 0] 3)).alloc (.cells #[.int .i64 0] 24)) = W := ⟨_, rfl⟩
  rw [hW] at Y0 Y1 Y2 Y3 hB0
  have HR := Lib.hid (totalF_err hE)
  have HCK : Hid (∀ w', Below W.heap.size W w' → Calls Tryd.prog 31 #[.agg #[.string nm, .slice A us.length c]] w' fun e w'' => e = .returned (.int .i64 (checkF nm us)) ∧ Below w'.heap.size w' w'') := fun w' hb => check_any nm hnm (.agg #[.string nm, .slice A us.length c]) us w' ⟨A, _, c, rfl, (hsl.below hB0).below hb⟩
  obtain ⟨E, hEq⟩ : ∃ E, totalE nm us cs = E := ⟨_, rfl⟩
  rw [hEq] at HR hE
  obtain ⟨bl, hbl⟩ : ∃ bl, decide (cs.length ≤ us.length) = bl := ⟨_, rfl⟩
  have HFI := Lib.hid (show firstF [checkF nm us, needF bl 2] = E by rw [← hEq, totalE, hbl])
  have dE : (E != 0) = true := by simp [hE]
  have HY0 := Lib.hid Y0
  have HY1 := Lib.hid Y1
  have HY2 := Lib.hid Y2
  have HY3 := Lib.hid Y3
  have HB0 := Lib.hid hB0
  have a0 := Y0.cell 0 (.string nm) rfl
  have a1 := Y0.cell 1 (.slice A us.length c) rfl
  have a2 := Y1.cell 0 (.slice A2 cs.length c2) rfl
  clear hE hEq hsl hcs hcl2 Y0 Y1 Y2 Y3 hB0
  generalize checkF nm us = ck at *
  refine (callsIn_wide (n := 6)).1 ?_
  refine callsIn_of_wp_marks Tryd.func64 rfl trivial ?_ rfl
  simp only [Tryd.ntmps64, List.size_toArray, List.length_cons, List.length_nil, Nat.reduceAdd, Nat.reduceSub, Array.replicate_succ, Array.replicate_zero, List.push_toArray, List.append_toArray, List.nil_append, List.cons_append]
  gi_wp2
  refine wpIn_wide.2 ?_
  go_region_held3? (fun w' => w'.cell? ⟨w.heap.size, 0, none⟩ = some (.string nm) ∧ w'.cell? ⟨w.heap.size, 1, none⟩ = some (.slice A us.length c) ∧ w'.cell? ⟨w.heap.size + 1, 0, none⟩ = some (.slice A2 cs.length c2))
    (first | exact ⟨b0, b1, b2⟩ | exact ⟨a0, a1, a2⟩ | exact HKA.out _) (first
    | (go_at_call 31; refine (HCK.out _ (below_undrew (Below.refl _ _))).mono ?_; rintro e w1 ⟨rfl, hb1'⟩; have hb1 : Below W.heap.size W w1 := below_undrew hb1'; have y0 := HY0.out.below HY0.out.lt hb1; have y1 := HY1.out.below HY1.out.lt hb1; have b0 := y0.cell 0 (.string nm) rfl; have b1 := y0.cell 1 (.slice A us.length c) rfl; have b2 := y1.cell 0 (.slice A2 cs.length c2) rfl; have HKA : Hid (∀ o, (w1.alloc o).cell? ⟨w.heap.size, 0, none⟩ = some (.string nm) ∧ (w1.alloc o).cell? ⟨w.heap.size, 1, none⟩ = some (.slice A us.length c) ∧ (w1.alloc o).cell? ⟨w.heap.size + 1, 0, none⟩ = some (.slice A2 cs.length c2)) := (fun o => ⟨(y0.alloc o).cell 0 (.string nm) rfl, (y0.alloc o).cell 1 (.slice A us.length c) rfl, (y1.alloc o).cell 0 (.slice A2 cs.length c2) rfl⟩); clear hb1' y0 y1)
    | (go_at_call 97; refine (need_any _ 2 _).mono ?_; rintro e w2 ⟨rfl, rfl⟩)
    | (go_at_call 102; refine (first2_any _ _ E w1 HFI.out).mono ?_; rintro e w3 ⟨rfl, rfl⟩))
  obtain ⟨X, hX⟩ : ∃ X, w1.alloc (.cells #[.int .i64 ck, .int .i64 (needF bl 2)] 24) = X := ⟨_, rfl⟩
  have x2 := (HY2.out.below HY2.out.lt hb1).alloc (.cells #[.int .i64 ck, .int .i64 (needF bl 2)] 24)
  have x3 := (HY3.out.below HY3.out.lt hb1).alloc (.cells #[.int .i64 ck, .int .i64 (needF bl 2)] 24)
  have hBX := (below_then HB0.out hb1).alloc (below_then HB0.out hb1).size (.cells #[.int .i64 ck, .int .i64 (needF bl 2)] 24)
  rw [hX] at x2 x3 hBX ⊢
  clear hX a0 a1 a2 b0 b1 b2 HKA
  have g2 := x2.cell 0 (.int .i64 0) rfl
  have g3 := x3.cell 0 (.int .i64 0) rfl
  have g4 := x2.frozen 0
  have g5 := x3.frozen 0
  gi_wp2
  have k2 := (x2.set1 (.int .i64 0)).other (p := ⟨w.heap.size + 1 + 1 + 1, 0, none⟩) (by simp) (.int .i64 E)
  have k3 := (x3.other (p := ⟨w.heap.size + 1 + 1, 0, none⟩) (by simp) (.int .i64 0)).set1 (.int .i64 E)
  have r2 := k2.cell 0 (.int .i64 0) rfl
  have r3 := k3.cell 0 (.int .i64 E) rfl
  refine ⟨_, ?_, by rw [HR.out], (hBX.setCell (p := ⟨w.heap.size + 1 + 1, 0, none⟩) (by simp; omega) _).setCell (p := ⟨w.heap.size + 1 + 1 + 1, 0, none⟩) (by simp; omega) _⟩
  simp [results, Tryd.f64, go_sem, r2, r3]
set_option maxRecDepth 100000 in
set_option maxHeartbeats 2000000 in
theorem total_good (nm : ByteArray) (hnm : (nm.size : Int) ≤ 9223372036854775807) (A : Option Addr) (c : Nat) (us : List Un) (A2 : Option Addr) (c2 : Nat) (cs : List Int) (w : World) (hsl : Sl w 2 (.slice A us.length c) (unitsV us)) (hcs : Sl w 1 (.slice A2 cs.length c2) (cs.map (Value.int .i64))) (hbd : ∀ x ∈ cs, Bd x) (hE : totalE nm us cs = 0) :
    Calls Tryd.prog 64 #[.agg #[.string nm, .slice A us.length c], .slice A2 cs.length c2] w fun e w' => e = .returned (.tuple #[.int .i64 (totalF nm us cs).1, .int .i64 (totalF nm us cs).2]) ∧ Below w.heap.size w w' := by
  obtain ⟨_, _, e, hlc2, hcm2, hcl2⟩ := hcs.open1
  simp only [List.length_map] at e hlc2
  cases e
  have Y0 := (((Cel.new w 33 #[.string nm, .slice A us.length c]).alloc (.cells #[.slice A2 cs.length c2] 75)).alloc (.cells #[.int .i64 0] 3)).alloc (.cells #[.int .i64 0] 24)
  have Y1 := ((Cel.at (w.alloc (.cells #[.string nm, .slice A us.length c] 33)) (w.heap.size + 1) 75 #[.slice A2 cs.length c2] (by simp)).alloc (.cells #[.int .i64 0] 3)).alloc (.cells #[.int .i64 0] 24)
  have Y2 := (Cel.at ((w.alloc (.cells #[.string nm, .slice A us.length c] 33)).alloc (.cells #[.slice A2 cs.length c2] 75)) (w.heap.size + 1 + 1) 3 #[.int .i64 0] (by simp)).alloc (.cells #[.int .i64 0] 24)
  have Y3 := Cel.at (((w.alloc (.cells #[.string nm, .slice A us.length c] 33)).alloc (.cells #[.slice A2 cs.length c2] 75)).alloc (.cells #[.int .i64 0] 3)) (w.heap.size + 1 + 1 + 1) 24 #[.int .i64 0] (by simp)
  have hB0 : Below w.heap.size w ((((w.alloc (.cells #[.string nm, .slice A us.length c] 33)).alloc (.cells #[.slice A2 cs.length c2] 75)).alloc (.cells #[.int .i64 0] 3)).alloc (.cells #[.int .i64 0] 24)) := (((below_alloc' _ _).alloc (by simp) _).alloc (by simp; omega) _).alloc (by simp; omega) _
  obtain ⟨W, hW⟩ : ∃ W, ((((w.alloc (.cells #[.string nm, .slice A us.length c] 33)).alloc (.cells #[.slice A2 cs.length c2] 75)).alloc (.cells #[.int .i64 0] 3)).alloc (.cells #[.int .i64 0] 24)) = W := ⟨_, rfl⟩
  rw [hW] at Y0 Y1 Y2 Y3 hB0
  obtain ⟨hc0, hcl⟩ := totalE_zero hE
  have HNEG := Lib.hid (fun h => totalF_neg (us := us) (cs := cs) hE h)
  have HSUM := Lib.hid (fun h => totalF_sum (us := us) (cs := cs) hE h)
  have HFU := Lib.hid (checkB_full hc0)
  have HUL := Lib.hid (checkF_zero hc0).2.2
  have HLE := Lib.hid hcl
  have HSR := Lib.hid hsl
  have HCS := Lib.hid hcl2
  have HBD := Lib.hid hbd
  have HCK : Hid (∀ w', Below W.heap.size W w' → Calls Tryd.prog 31 #[.agg #[.string nm, .slice A us.length c]] w' fun e w'' => e = .returned (.int .i64 (checkF nm us)) ∧ Below w'.heap.size w' w'') := fun w' hb => check_any nm hnm (.agg #[.string nm, .slice A us.length c]) us w' ⟨A, _, c, rfl, (hsl.below hB0).below hb⟩
  obtain ⟨E, hEq⟩ : ∃ E, totalE nm us cs = E := ⟨_, rfl⟩
  rw [hEq] at hE
  obtain ⟨bl, hbl⟩ : ∃ bl, decide (cs.length ≤ us.length) = bl := ⟨_, rfl⟩
  have HFI := Lib.hid (show firstF [checkF nm us, needF bl 2] = E by rw [← hEq, totalE, hbl])
  have dE : (E != 0) = false := by simp [hE]
  have HY0 := Lib.hid Y0
  have HY1 := Lib.hid Y1
  have HY2 := Lib.hid Y2
  have HY3 := Lib.hid Y3
  have HB0 := Lib.hid hB0
  have a0 := Y0.cell 0 (.string nm) rfl
  have a1 := Y0.cell 1 (.slice A us.length c) rfl
  have a2 := Y1.cell 0 (.slice A2 cs.length c2) rfl
  clear hE hEq hsl hcs hcl2 hbd hc0 hcl Y0 Y1 Y2 Y3 hB0
  generalize checkF nm us = ck at *
  refine (callsIn_wide (n := 6)).1 ?_
  refine callsIn_of_wp_marks Tryd.func64 rfl trivial ?_ rfl
  simp only [Tryd.ntmps64, List.size_toArray, List.length_cons, List.length_nil, Nat.reduceAdd, Nat.reduceSub, Array.replicate_succ, Array.replicate_zero, List.push_toArray, List.append_toArray, List.nil_append, List.cons_append]
  gi_wp2
  refine wpIn_wide.2 ?_
  go_region_held3? (fun w' => w'.cell? ⟨w.heap.size, 0, none⟩ = some (.string nm) ∧ w'.cell? ⟨w.heap.size, 1, none⟩ = some (.slice A us.length c) ∧ w'.cell? ⟨w.heap.size + 1, 0, none⟩ = some (.slice A2 cs.length c2))
    (first | exact ⟨b0, b1, b2⟩ | exact ⟨a0, a1, a2⟩ | exact HKA.out _) (first
    | (go_at_call 31; refine (HCK.out _ (below_undrew (Below.refl _ _))).mono ?_; rintro e w1 ⟨rfl, hb1'⟩; have hb1 : Below W.heap.size W w1 := below_undrew hb1'; have y0 := HY0.out.below HY0.out.lt hb1; have y1 := HY1.out.below HY1.out.lt hb1; have b0 := y0.cell 0 (.string nm) rfl; have b1 := y0.cell 1 (.slice A us.length c) rfl; have b2 := y1.cell 0 (.slice A2 cs.length c2) rfl; have HKA : Hid (∀ o, (w1.alloc o).cell? ⟨w.heap.size, 0, none⟩ = some (.string nm) ∧ (w1.alloc o).cell? ⟨w.heap.size, 1, none⟩ = some (.slice A us.length c) ∧ (w1.alloc o).cell? ⟨w.heap.size + 1, 0, none⟩ = some (.slice A2 cs.length c2)) := (fun o => ⟨(y0.alloc o).cell 0 (.string nm) rfl, (y0.alloc o).cell 1 (.slice A us.length c) rfl, (y1.alloc o).cell 0 (.slice A2 cs.length c2) rfl⟩); clear hb1' y0 y1)
    | (go_at_call 97; refine (need_any _ 2 _).mono ?_; rintro e w2 ⟨rfl, rfl⟩)
    | (go_at_call 102; refine (first2_any _ _ E w1 HFI.out).mono ?_; rintro e w3 ⟨rfl, rfl⟩))
  obtain ⟨X, hX⟩ : ∃ X, w1.alloc (.cells #[.int .i64 ck, .int .i64 (needF bl 2)] 24) = X := ⟨_, rfl⟩
  have x2 := (HY2.out.below HY2.out.lt hb1).alloc (.cells #[.int .i64 ck, .int .i64 (needF bl 2)] 24)
  have x3 := (HY3.out.below HY3.out.lt hb1).alloc (.cells #[.int .i64 ck, .int .i64 (needF bl 2)] 24)
  have hBX := (below_then HB0.out hb1).alloc (below_then HB0.out hb1).size (.cells #[.int .i64 ck, .int .i64 (needF bl 2)] 24)
  have x0 := (HY0.out.below HY0.out.lt hb1).alloc (.cells #[.int .i64 ck, .int .i64 (needF bl 2)] 24)
  have x1 := (HY1.out.below HY1.out.lt hb1).alloc (.cells #[.int .i64 ck, .int .i64 (needF bl 2)] 24)
  have hBW := hb1.alloc hb1.size (.cells #[.int .i64 ck, .int .i64 (needF bl 2)] 24)
  rw [hX] at x0 x1 x2 x3 hBX hBW ⊢
  clear hX a0 a1 a2 b0 b1 b2 HKA
  have HX0 := Lib.hid x0
  have HX1 := Lib.hid x1
  have HX2 := Lib.hid x2
  have HX3 := Lib.hid x3
  have HBX := Lib.hid hBX
  have HBW := Lib.hid hBW
  have l3 := x3.lt
  have a2 := x1.cell 0 (.slice A2 cs.length c2) rfl
  have g2 := x2.cell 0 (.int .i64 0) rfl
  have g3 := x3.cell 0 (.int .i64 0) rfl
  have g4 := x2.frozen 0
  have g5 := x3.frozen 0
  have a0 := x0.cell 0 (.string nm) rfl
  have a1 := x0.cell 1 (.slice A us.length c) rfl
  clear x0 x1 x2 x3 hBX hBW hb1
  gi_wp2
  gi_loopw [29] (fun t wr => ∃ k : Nat, t = .int .i64 k ∧ k ≤ cs.length ∧ (∀ j (hj : j < cs.length), j < k → 0 ≤ cs[j]) ∧ wr = X) (fun t _ => cs.length - (intOf t).toNat)
  case atStart => exact ⟨0, rfl, by omega, fun j _ h => by omega, rfl⟩
  case round =>
    obtain ⟨k, rfl, hk, hne, rfl⟩ := hrel
    have HN := Lib.hid hne
    clear hne
    by_cases hlt : k < cs.length
    · obtain ⟨ad, e, q0⟩ := HCS.out k (.int .i64 cs[k]) (by rw [List.getElem?_map, List.getElem?_eq_getElem hlt]; rfl)
      subst e
      have e1 := below_cell HBX.out q0
      have hx := HBD.out cs[k] (List.getElem_mem _)
      obtain ⟨x, hxe⟩ : ∃ x, cs[k] = x := ⟨_, rfl⟩
      rw [hxe] at e1 hx
      have HXE := Lib.hid hxe
      obtain ⟨hx1, hx2⟩ := hx
      clear q0 hxe
      by_cases h : x < 0
      · have HR := Lib.hid (HNEG.out (negB_yes hlt (by rw [HXE.out]; exact h)))
        have d1 : decide (x < 0) = true := decide_eq_true h
        gi_wp2
        have k2 := (HX2.out.set1 (.int .i64 0)).other (p := ⟨w.heap.size + 1 + 1 + 1, 0, none⟩) (by simp) (.int .i64 8)
        have k3 := (HX3.out.other (p := ⟨w.heap.size + 1 + 1, 0, none⟩) (by simp) (.int .i64 0)).set1 (.int .i64 8)
        have r2 := k2.cell 0 (.int .i64 0) rfl
        have r3 := k3.cell 0 (.int .i64 8) rfl
        refine ⟨_, ?_, by rw [HR.out], (HBX.out.setCell (p := ⟨w.heap.size + 1 + 1, 0, none⟩) (by simp; omega) _).setCell (p := ⟨w.heap.size + 1 + 1 + 1, 0, none⟩) (by simp; omega) _⟩
        simp [results, Tryd.f64, go_sem, r2, r3]
      · have d1 : decide (x < 0) = false := decide_eq_false h
        gi_wp2
        go_roundw
        case rel =>
          refine ⟨k + 1, by simp, hlt, fun j hj hjk => ?_, trivial⟩
          by_cases e : j = k
          · subst e; rw [HXE.out]; omega
          · exact HN.out j hj (by omega)
        case measure => simp [intOf]; omega
    · have HNB := Lib.hid (negB_no fun j hj => HN.out j hj (by omega))
      have HPOS := Lib.hid (negB_all HNB.out)
      have HS := Lib.hid (HSUM.out HNB.out)
      have v0 := (HX0.out.alloc (.cells #[.int .i64 0] 3)).alloc (.cells #[.int .i64 0] 3)
      have b0 := v0.cell 0 (.string nm) rfl
      have b1 := v0.cell 1 (.slice A us.length c) rfl
      gi_wp2_with (refine ⟨trivial, ?_⟩; gi_at_call 94; refine (callsIn_wide.2 (units_any nm A us.length c _)).mono ?_; rintro e w' ⟨rfl, rfl⟩)
      have Z0 := v0.alloc (.cells #[.string nm, .slice A us.length c] 33)
      have Z1 := ((HX1.out.alloc (.cells #[.int .i64 0] 3)).alloc (.cells #[.int .i64 0] 3)).alloc (.cells #[.string nm, .slice A us.length c] 33)
      have Z2 := ((HX2.out.alloc (.cells #[.int .i64 0] 3)).alloc (.cells #[.int .i64 0] 3)).alloc (.cells #[.string nm, .slice A us.length c] 33)
      have Z3 := ((HX3.out.alloc (.cells #[.int .i64 0] 3)).alloc (.cells #[.int .i64 0] 3)).alloc (.cells #[.string nm, .slice A us.length c] 33)
      have Z9 := ((Cel.new wr 3 #[.int .i64 0]).alloc (.cells #[.int .i64 0] 3)).alloc (.cells #[.string nm, .slice A us.length c] 33)
      have Z10 := (Cel.at (wr.alloc (.cells #[.int .i64 0] 3)) (wr.heap.size + 1) 3 #[.int .i64 0] (by simp)).alloc (.cells #[.string nm, .slice A us.length c] 33)
      have Z11 := Cel.at ((wr.alloc (.cells #[.int .i64 0] 3)).alloc (.cells #[.int .i64 0] 3)) (wr.heap.size + 1 + 1) 33 #[.string nm, .slice A us.length c] (by simp)
      have hB3 := ((HBX.out.alloc HBX.out.size (.cells #[.int .i64 0] 3)).alloc (HBX.out.alloc HBX.out.size (.cells #[.int .i64 0] 3)).size (.cells #[.int .i64 0] 3)).alloc ((HBX.out.alloc HBX.out.size (.cells #[.int .i64 0] 3)).alloc (HBX.out.alloc HBX.out.size (.cells #[.int .i64 0] 3)).size (.cells #[.int .i64 0] 3)).size (.cells #[.string nm, .slice A us.length c] 33)
      have hsz : (((wr.alloc (.cells #[.int .i64 0] 3)).alloc (.cells #[.int .i64 0] 3)).alloc (.cells #[.string nm, .slice A us.length c] 33)).heap.size = wr.heap.size + 3 := by simp
      obtain ⟨W0, hW0⟩ : ∃ W0, ((wr.alloc (.cells #[.int .i64 0] 3)).alloc (.cells #[.int .i64 0] 3)).alloc (.cells #[.string nm, .slice A us.length c] 33) = W0 := ⟨_, rfl⟩
      rw [hW0] at Z0 Z1 Z2 Z3 Z9 Z10 Z11 hB3 hsz ⊢
      clear hW0 v0 b0 b1 a0 a1 a2
      have hY11 := Z11
      have HSW : Hid (∀ w', Below w.heap.size W0 w' → Sl w' 2 (.slice A us.length c) (unitsV us)) := fun w' hb => HSR.out.below (hB3.trans hb)
      have hul : us.length ≤ 4398046511104 := by have := HUL.out; omega
      have HUL2 := Lib.hid hul
      have HB3 := Lib.hid hB3
      refine wpIn_rangeFunc_ownH (F := Fence.wide) (n := 6) (w := W0) rfl (by decide) (gf := 123) (lb := #[.pointer (some ⟨wr.heap.size + 1 + 1, 0, none⟩)]) rfl trivial (enters_of Tryd.func123 (by kernel_rfl) rfl)
        (units_stops 5 (wr.heap.size + 1 + 1) w.heap.size (by decide) nm A us.length c us hul W0 (by omega) (by omega) Z11 HSW.out) belowK_t (belowK_b (by omega)) (Below.refl _ _) (fun _ => rfl)
        (fun pre V => ((((((Cel V w.heap.size 33 #[.string nm, .slice A us.length c] ∧ Cel V (w.heap.size + 1) 75 #[.slice A2 cs.length c2]) ∧ Cel V (w.heap.size + 1 + 1) 3 #[.int .i64 0]) ∧ Cel V (w.heap.size + 1 + 1 + 1) 24 #[.int .i64 0]) ∧ Cel V wr.heap.size 3 #[.int .i64 ((sumP pre cs 0).getD 0)]) ∧ Cel V (wr.heap.size + 1) 3 #[.int .i64 (pre.length : Int)]) ∧ (pre.length ≤ cs.length ∧ (sumP pre cs 0).isSome)) ∧ Below w.heap.size w V)
        (fun cd pre V => (((cd = .ret ∧ sumP pre cs 0 = none) ∧ (Cel V (w.heap.size + 1 + 1) 3 #[.int .i64 0] ∧ Cel V (w.heap.size + 1 + 1 + 1) 24 #[.int .i64 6])) ∨ ((cd = .exit 2 ∧ cs.length < pre.length ∧ (sumP pre cs 0).isSome) ∧ ((Cel V (w.heap.size + 1 + 1) 3 #[.int .i64 0] ∧ Cel V (w.heap.size + 1 + 1 + 1) 24 #[.int .i64 0]) ∧ Cel V wr.heap.size 3 #[.int .i64 ((sumP pre cs 0).getD 0)]))) ∧ Below w.heap.size w V)
        (OwnFrom.and (OwnFrom.and (OwnFrom.and (OwnFrom.and (OwnFrom.and (OwnFrom.and (OwnFrom.and (Own.from (Cel.own _ _ _) _) (Own.from (Cel.own _ _ _) _)) (Own.from (Cel.own _ _ _) _)) (Own.from (Cel.own _ _ _) _)) (Own.from (Cel.own _ _ (fun pre => #[.int .i64 ((sumP pre cs 0).getD 0)])) _)) (Own.from (Cel.own _ _ (fun pre : List UV => #[.int .i64 (pre.length : Int)])) _)) (ownFrom_pure _ _)) (ownFrom_below (Nat.le_refl _) (by omega)))
        (fun cd => OwnFrom.and (OwnFrom.or (OwnFrom.and (ownFrom_pure _ _) (OwnFrom.and (Own.from (Cel.own _ _ _) _) (Own.from (Cel.own _ _ _) _))) (OwnFrom.and (ownFrom_pure _ _) (OwnFrom.and (OwnFrom.and (Own.from (Cel.own _ _ _) _) (Own.from (Cel.own _ _ _) _)) (Own.from (Cel.own _ _ (fun pre => #[.int .i64 ((sumP pre cs 0).getD 0)])) _)))) (ownFrom_below (Nat.le_refl _) (by omega)))
        ⟨⟨⟨⟨⟨⟨⟨Z0, Z1⟩, Z2⟩, Z3⟩, Z9⟩, Z10⟩, by simp, rfl⟩, hB3⟩
        (fun x a' _ => a' = Act.mk #[Value.agg #[Value.string nm, Value.slice A us.length c], Value.slice A2 cs.length c2,
          Value.pointer (some { block := w.heap.size, off := 0 }),
          Value.pointer (some { block := w.heap.size + 1, off := 0 }),
          Value.pointer (some { block := w.heap.size + 1 + 1, off := 0 }),
          Value.pointer (some { block := w.heap.size + 1 + 1 + 1, off := 0 }), Value.int IntKind.i64 E, undef, u8,
          Value.pointer (some { block := wr.heap.size, off := 0 }),
          Value.pointer (some { block := wr.heap.size + 1, off := 0 }), undef, .int .i64 x.v,
          Value.agg #[Value.string nm, Value.slice A us.length c], Value.int IntKind.i64 ck,
          Value.slice A2 cs.length c2, Value.int IntKind.i64 ↑cs.length,
          Value.pointer (some { block := w.heap.size, off := 1 }), Value.slice A us.length c,
          Value.int IntKind.i64 ↑us.length, Value.bool bl, Value.int IntKind.i64 (needF bl 2),
          Value.slice (some { block := w1.heap.size, off := 0 }) 2 2, Value.int IntKind.i64 E, Value.int IntKind.i64 E,
          Value.bool false, undef, Value.slice A2 cs.length c2, Value.int IntKind.i64 ↑cs.length,
          Value.int IntKind.i64 ↑k, Value.bool false, u31, u32, u33, u34, u35,
          Value.agg #[Value.string nm, Value.slice A us.length c],
          Value.func (Fn.func 123) #[] #[Value.pointer (some { block := wr.heap.size + 1 + 1, off := 0 })], .agg #[.string x.u.sign, .int .i64 x.u.factor], .int .i64 x.v,
          undef, undef, undef, undef, undef, undef, undef, undef, undef, undef, undef, undef, undef, undef, undef, undef, undef, undef, undef, undef, undef, undef, undef, undef] [])
        (fun x a' => ownFrom_pure _ _)
        ?assign ?body ?done ?stop
      case assign =>
        rintro l pre x V K hJ hK
        dsimp only [uvV]
        gi_wp2
        exact hK _ _ (KeepsFrom.refl _ _) (Below.refl _ V) hJ rfl
      case body =>
        rintro l pre x a' V hl ⟨r, hr⟩ ⟨⟨⟨⟨⟨⟨⟨y0, y1⟩, y2⟩, y3⟩, y9⟩, y10⟩, hple, hso⟩, hB1⟩ rfl hlt
        clear hr hl
        obtain ⟨s, hs⟩ := Option.isSome_iff_exists.1 hso
        rw [hs, Option.getD_some] at y9
        obtain ⟨s0, s1⟩ := sumP_bd pre cs 0 s HPOS.out (by decide) (by decide) hs
        have t1 := y1.cell 0 (.slice A2 cs.length c2) rfl
        have t2 := y2.cell 0 (.int .i64 0) rfl
        have t3 := y3.cell 0 (.int .i64 0) rfl
        have t9 := y9.cell 0 (.int .i64 s) rfl
        have t10 := y10.cell 0 (.int .i64 (pre.length : Int)) rfl
        have f2 := y2.frozen 0
        have f3 := y3.frozen 0
        have f9 := y9.frozen 0
        have f10 := y10.frozen 0
        have HSM := Lib.hid hs
        clear hs hso
        by_cases hpl : pre.length = cs.length
        · have b1 : ((pre.length : Int) == (cs.length : Int)) = true := beq_iff_eq.2 (by omega)
          have HPL := Lib.hid hpl
          have HST := Lib.hid (show sumP (pre ++ [x]) cs 0 = some s by rw [sumP_stop _ _ _ _ (by omega), HSM.out])
          clear hpl
          gi_wp2
          exact ⟨KeepsFrom.refl _ _, .inr ⟨⟨rfl, by have := HPL.out; simp; omega, by rw [HST.out]; rfl⟩, ⟨y2, y3⟩, by rw [HST.out]; exact y9⟩, hB1⟩
        · have b1 : ((pre.length : Int) == (cs.length : Int)) = false := beq_eq_false_iff_ne.2 (by omega)
          have hpl' : pre.length < cs.length := by omega
          obtain ⟨ad, e, q0⟩ := HCS.out pre.length (.int .i64 cs[pre.length]) (by rw [List.getElem?_map, List.getElem?_eq_getElem hpl']; rfl)
          subst e
          have e1 := below_cell hB1 q0
          have x1 := HPOS.out cs[pre.length] (List.getElem_mem _)
          obtain ⟨_, x2⟩ := HBD.out cs[pre.length] (List.getElem_mem _)
          have HAP := Lib.hid (show sumP (pre ++ [x]) cs 0 = if (1099511627776 - s) / x.v < cs[pre.length] then none else some (s + cs[pre.length] * x.v) by
            rw [sumP_append _ _ _ _ hpl', HSM.out]; rfl)
          have v1 := x.h2.1
          have v2 := x.h2.2
          have hxl : (pre ++ [x]).length = pre.length + 1 := by simp
          have HXL := Lib.hid hxl
          clear q0 hpl hxl
          generalize cs[pre.length] = cx at *
          generalize x.v = v at *
          have hv0 : ¬ v = 0 := by omega
          have dv := Int.ediv_nonneg (show 0 ≤ 1099511627776 - s by omega) (show 0 ≤ v by omega)
          have dv2 := Int.ediv_le_self v (show 0 ≤ 1099511627776 - s by omega)
          have hpi : (pre.length : Int) < (cs.length : Int) := by omega
          have hw1 : IntKind.i64.wrap (1099511627776 - s) = 1099511627776 - s := by rw [IntKind.wrap_i64]; omega
          have hw2 : IntKind.i64.wrap ((1099511627776 - s).tdiv v) = (1099511627776 - s) / v := by
            rw [Int.tdiv_eq_ediv_of_nonneg (by omega), IntKind.wrap_i64]; omega
          by_cases h : (1099511627776 - s) / v < cx
          · have d1 : decide ((1099511627776 - s) / v < cx) = true := decide_eq_true h
            have HN := Lib.hid (show sumP (pre ++ [x]) cs 0 = none by rw [HAP.out, if_pos h])
            clear h
            gi_wp2
            refine region_still_round (fun h => by obtain ⟨_, _, h⟩ := h; exact h) (by kernel_rfl) (by kernel_rfl) (by kernel_rfl) ?_
            repeat still_step
            refine wpStill_nil ?_
            gi_wp2
            exact ⟨((show KeepsOthers V V.drew from KeepsOthers.drew V).trans ((KeepsOthers.setCell _ _ _).trans (KeepsOthers.setCell _ _ _))).from _, .inl ⟨⟨rfl, HN.out⟩, ((show Cel V.drew _ _ _ from y2).set1 (.int .i64 0)).other (by simp) _, ((show Cel V.drew _ _ _ from y3).other (by simp) _).set1 (.int .i64 6)⟩,
              ((below_drew hB1).setCell (p := ⟨w.heap.size + 1 + 1, 0, none⟩) (by simp; omega) _).setCell (p := ⟨w.heap.size + 1 + 1 + 1, 0, none⟩) (by simp; omega) _⟩
          · have d1 : decide ((1099511627776 - s) / v < cx) = false := decide_eq_false h
            obtain ⟨p1, p2, p3, p4, p5⟩ := sum_step s0 s1 x1 v1 h
            have p6 : -9223372036854775808 ≤ cx * v := by omega
            have p7 : cx * v ≤ 9223372036854775807 := by omega
            have hw3 : IntKind.i64.wrap (cx * v) = cx * v := by rw [IntKind.wrap_i64]; omega
            have hw4 : IntKind.i64.wrap (s + cx * v) = s + cx * v := by rw [IntKind.wrap_i64]; omega
            have HSO := Lib.hid (show sumP (pre ++ [x]) cs 0 = some (s + cx * v) by rw [HAP.out, if_neg h])
            clear h
            gi_wp2
            refine region_still_round (fun h => by obtain ⟨_, _, h⟩ := h; exact h) (by kernel_rfl) (by kernel_rfl) (by kernel_rfl) ?_
            repeat still_step
            refine wpStill_nil ?_
            gi_wp2
            refine region_still_tail_round 8 ?hL ?hm ?hd ?hB ?hh
            case hL => rintro ⟨_, _, h⟩; exact h
            case hm => kernel_rfl
            case hd => kernel_rfl
            case hB => kernel_rfl
            simp only [List.take_succ_cons, List.take_zero, List.drop_succ_cons, List.drop_zero]
            repeat still_step
            refine wpStill_nil ?_
            have Y9 := (show Cel V.drew.drew _ _ _ from y9).set1 (.int .i64 (s + cx * v))
            have Y10 := (show Cel V.drew.drew _ _ _ from y10).other (p := ⟨wr.heap.size, 0, none⟩) (by simp) (.int .i64 (s + cx * v))
            have Y1 := (show Cel V.drew.drew _ _ _ from y1).other (p := ⟨wr.heap.size, 0, none⟩) (by simp; omega) (.int .i64 (s + cx * v))
            have Y2' := (show Cel V.drew.drew _ _ _ from y2).other (p := ⟨wr.heap.size, 0, none⟩) (by simp; omega) (.int .i64 (s + cx * v))
            have Y3' := (show Cel V.drew.drew _ _ _ from y3).other (p := ⟨wr.heap.size, 0, none⟩) (by simp; omega) (.int .i64 (s + cx * v))
            have Y0' := (show Cel V.drew.drew _ _ _ from y0).other (p := ⟨wr.heap.size, 0, none⟩) (by simp; omega) (.int .i64 (s + cx * v))
            have HBV := Lib.hid ((below_drew (below_drew hB1)).setCell (p := ⟨wr.heap.size, 0, none⟩) (by simp; omega) (.int .i64 (s + cx * v)))
            have HKO := Lib.hid ((KeepsOthers.drew V).trans ((KeepsOthers.drew V.drew).trans (KeepsOthers.setCell V.drew.drew ⟨wr.heap.size, 0, none⟩ (.int .i64 (s + cx * v)))))
            have z1 := Y10.cell 0 (.int .i64 (pre.length : Int)) rfl
            have z2 := Y10.frozen 0
            have hw5 : IntKind.i64.wrap ((pre.length : Int) + 1) = (pre.length : Int) + 1 := by rw [IntKind.wrap_i64]; omega
            go_wp2
            gi_wp2
            exact ⟨(HKO.out.trans (KeepsOthers.setCell _ _ _)).from _, ((below_drew (below_drew (Below.refl w.heap.size V))).setCell (p := ⟨wr.heap.size, 0, none⟩) (by simp; omega) _).setCell (p := ⟨wr.heap.size + 1, 0, none⟩) (by simp; omega) _,
              ⟨⟨⟨⟨⟨⟨⟨Y0'.other (by simp; omega) _, Y1.other (by simp; omega) _⟩, Y2'.other (by simp; omega) _⟩, Y3'.other (by simp; omega) _⟩, by rw [HSO.out]; exact Y9.other (by simp) _⟩, by rw [HXL.out]; exact Y10.set1 _⟩, by rw [HXL.out]; omega, by rw [HSO.out]; rfl⟩, HBV.out.setCell (p := ⟨wr.heap.size + 1, 0, none⟩) (by simp; omega) _⟩⟩
      case done =>
        rintro D ys V hD rfl ⟨⟨⟨⟨⟨⟨⟨y0, y1⟩, y2⟩, y3⟩, y9⟩, y10⟩, hple, hso⟩, hB1⟩ hK
        obtain ⟨s, hs⟩ := Option.isSome_iff_exists.1 hso
        rw [hs, Option.getD_some] at y9
        have t2 := y2.cell 0 (.int .i64 0) rfl
        have t3 := y3.cell 0 (.int .i64 0) rfl
        have t9 := y9.cell 0 (.int .i64 s) rfl
        have f2 := y2.frozen 0
        have f3 := y3.frozen 0
        have HF := Lib.hid (show totalF nm us cs = (s, 0) by rw [HS.out, hs])
        clear hs hso hple y0 y1 y10
        gi_wp2
        have hK1 := (KeepsOthers.setCell V ⟨w.heap.size + 1 + 1, 0, none⟩ (.int .i64 s)).same D _ hK rfl
        have hK' := (KeepsOthers.setCell _ ⟨w.heap.size + 1 + 1 + 1, 0, none⟩ (.int .i64 0)).same D _ hK1 rfl
        refine ⟨by simp, .inl ⟨_, _, rfl, run_takeDeferred hK', ?_⟩⟩
        have k3 := cell_kept (((y2.set1 (.int .i64 s)).other (p := ⟨w.heap.size + 1 + 1 + 1, 0, none⟩) (by simp) (.int .i64 0)).cell 0 _ rfl) (grownBy_putObj' _ D (.deferred none)) (fun r e => by cases e; exact ⟨_, hK', rfl⟩)
        have k4 := cell_kept (((y3.other (p := ⟨w.heap.size + 1 + 1, 0, none⟩) (by simp) (.int .i64 s)).set1 (.int .i64 0)).cell 0 _ rfl) (grownBy_putObj' _ D (.deferred none)) (fun r e => by cases e; exact ⟨_, hK', rfl⟩)
        refine ⟨_, ?_, by rw [HF.out], ((hB1.setCell (p := ⟨w.heap.size + 1 + 1, 0, none⟩) (by simp; omega) _).setCell (p := ⟨w.heap.size + 1 + 1 + 1, 0, none⟩) (by simp; omega) _).trans (belowK_b (w := w) (Nat.le_refl _) _ D _ _ (by omega) hK' rfl rfl)⟩
        simp [results, Tryd.f64, go_sem, k3, k4]
      case stop =>
        rintro D cd pre V hD hpre ⟨hx, hB1⟩ hK
        obtain ⟨t, ht⟩ := hpre
        rcases hx with ⟨⟨rfl, hno⟩, y2, y3⟩ | ⟨⟨rfl, hlt, hso⟩, ⟨y2, y3⟩, y9⟩
        · have HF := Lib.hid (show totalF nm us cs = (0, 6) by rw [HS.out, ← ht, sumP_none _ _ _ _ hno])
          clear hno ht
          gi_wp2
          refine ⟨by simp, .inl ⟨_, _, rfl, run_takeDeferred hK, ?_⟩⟩
          have k3 := cell_kept (y2.cell 0 _ rfl) (grownBy_putObj' _ D (.deferred none)) (fun r e => by cases e; exact ⟨_, hK, rfl⟩)
          have k4 := cell_kept (y3.cell 0 _ rfl) (grownBy_putObj' _ D (.deferred none)) (fun r e => by cases e; exact ⟨_, hK, rfl⟩)
          refine ⟨_, ?_, by rw [HF.out], hB1.trans (belowK_b (w := w) (Nat.le_refl _) V D _ _ (by omega) hK rfl rfl)⟩
          simp [results, Tryd.f64, go_sem, k3, k4]
        · obtain ⟨s, hs⟩ := Option.isSome_iff_exists.1 hso
          rw [hs, Option.getD_some] at y9
          have t2 := y2.cell 0 (.int .i64 0) rfl
          have t3 := y3.cell 0 (.int .i64 0) rfl
          have t9 := y9.cell 0 (.int .i64 s) rfl
          have f2 := y2.frozen 0
          have f3 := y3.frozen 0
          have HF := Lib.hid (show totalF nm us cs = (s, 0) by rw [HS.out, ← ht, sumP_stop _ _ _ _ (by omega), hs])
          clear hs hso ht hlt
          gi_wp2
          have hK1 := (KeepsOthers.setCell V ⟨w.heap.size + 1 + 1, 0, none⟩ (.int .i64 s)).same D _ hK rfl
          have hK' := (KeepsOthers.setCell _ ⟨w.heap.size + 1 + 1 + 1, 0, none⟩ (.int .i64 0)).same D _ hK1 rfl
          refine ⟨by simp, .inl ⟨_, _, rfl, run_takeDeferred hK', ?_⟩⟩
          have k3 := cell_kept (((y2.set1 (.int .i64 s)).other (p := ⟨w.heap.size + 1 + 1 + 1, 0, none⟩) (by simp) (.int .i64 0)).cell 0 _ rfl) (grownBy_putObj' _ D (.deferred none)) (fun r e => by cases e; exact ⟨_, hK', rfl⟩)
          have k4 := cell_kept (((y3.other (p := ⟨w.heap.size + 1 + 1, 0, none⟩) (by simp) (.int .i64 s)).set1 (.int .i64 0)).cell 0 _ rfl) (grownBy_putObj' _ D (.deferred none)) (fun r e => by cases e; exact ⟨_, hK', rfl⟩)
          refine ⟨_, ?_, by rw [HF.out], ((hB1.setCell (p := ⟨w.heap.size + 1 + 1, 0, none⟩) (by simp; omega) _).setCell (p := ⟨w.heap.size + 1 + 1 + 1, 0, none⟩) (by simp; omega) _).trans (belowK_b (w := w) (Nat.le_refl _) _ D _ _ (by omega) hK' rfl rfl)⟩
          simp [results, Tryd.f64, go_sem, k3, k4]
/-- Total, at every ladder and counts. -/
theorem total_any (nm : ByteArray) (hnm : (nm.size : Int) ≤ 9223372036854775807) (A : Option Addr) (c : Nat) (us : List Un) (A2 : Option Addr) (c2 : Nat) (cs : List Int) (w : World) (hsl : Sl w 2 (.slice A us.length c) (unitsV us)) (hcs : Sl w 1 (.slice A2 cs.length c2) (cs.map (Value.int .i64))) (hbd : ∀ x ∈ cs, Bd x) :
    Calls Tryd.prog 64 #[.agg #[.string nm, .slice A us.length c], .slice A2 cs.length c2] w fun e w' => e = .returned (.tuple #[.int .i64 (totalF nm us cs).1, .int .i64 (totalF nm us cs).2]) ∧ Below w.heap.size w w' := by
  by_cases h : totalE nm us cs = 0
  · exact total_good nm hnm A c us A2 c2 cs w hsl hcs hbd h
  · exact total_err nm hnm A c us A2 c2 cs w hsl hcs h
end Go.Proofs.YtmibpncmebhbjaaDoor
