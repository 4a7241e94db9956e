/- MetroKnown: books that are nil or zero. -/

import Derived.Test.YtmibpncmebhbjaaDoorP5
namespace Go.Proofs.YtmibpncmebhbjaaDoor
open Go Go.RowKit Go.Shelf
attribute [local go_sem] Oper.semAt_some rrV

/-- A book that is nil or zero. -/
def NoB (w : World) (v : Value) : Prop := v = .pointer none ∨ ∃ B, v = .pointer (some ⟨B, 0, none⟩) ∧ Cel w B 114 #[.slice none 0 0, .map none, .slice none 0 0, .slice none 0 0]
theorem NoB.below {w w' : World} {v : Value} (h : NoB w v) (hb : Below w.heap.size w w') : NoB w' v := by
  rcases h with h | ⟨B, h, hc⟩
  · exact .inl h
  · exact .inr ⟨B, h, hc.below hc.lt hb⟩
set_option maxRecDepth 100000 in
theorem none_yes (v : Value) (w : World) (h : NoB w v) : Calls Tryd.prog 100 #[v] w fun e w' => e = .returned (.bool true) ∧ w = w' := by
  rcases h with rfl | ⟨B, rfl, hc⟩
  · go_enter Tryd.func100, Tryd.ntmps100
    go_wp2
    go_ret
    exact ⟨rfl, rfl⟩
  · have c1 := hc.cell 1 (.map none) rfl
    have hq : ∀ w, (binOp .eql 111 (.map none) (.map none)).run Tryd.prog w = .ok (.bool true) w := fun w => run_eql_map_nil w _ _ _ none Tryd.underlying111
    go_enter Tryd.func100, Tryd.ntmps100
    go_wp2
    go_ret
    exact ⟨rfl, rfl⟩
set_option maxRecDepth 100000 in
set_option maxHeartbeats 1000000 in
theorem names_none (v : Value) (w : World) (h : NoB w v) : Calls Tryd.prog 59 #[v] w fun e w' => e = .returned (.slice none 0 0) ∧ w = w' := by
  have HN := Lib.hid (none_yes v w h)
  clear h
  go_enter Tryd.func59, Tryd.ntmps59
  go_wp2_with fail
  go_fit HN.out
  rintro e w' ⟨rfl, rfl⟩
  go_wp2
  go_ret
  exact ⟨rfl, rfl⟩
set_option maxRecDepth 100000 in
set_option maxHeartbeats 1000000 in
theorem group_none (v : Value) (nm : ByteArray) (w : World) (h : NoB w v) : Calls Tryd.prog 52 #[v, .string nm] w fun e w' => e = .returned (.slice none 0 0) ∧ w = w' := by
  have HN := Lib.hid (none_yes v w h)
  clear h
  go_enter Tryd.func52, Tryd.ntmps52
  go_wp2_with fail
  go_fit HN.out
  rintro e w' ⟨rfl, rfl⟩
  go_wp2
  go_ret
  exact ⟨rfl, rfl⟩
set_option maxRecDepth 100000 in
set_option maxHeartbeats 2000000 in
theorem ladder_none (v : Value) (nm : ByteArray) (w : World) (h : NoB w v) : Calls Tryd.prog 70 #[v, .string nm] w fun e w' => e = .returned (.tuple #[.agg #[.string ⟨#[]⟩, .slice none 0 0], .int .i64 1]) ∧ Below w.heap.size w w' := by
  have hw0 : Below w.heap.size w (w.alloc (.cells #[.string ⟨#[]⟩, .slice none 0 0] 33)) := by repeat (first | exact Below.refl _ _ | refine Below.alloc ?_ (by first | (simp; done) | (simp; omega)) _)
  have y0 := Cel.new w 33 #[.string ⟨#[]⟩, .slice none 0 0]
  have HN := Lib.hid (none_yes v (w.alloc (.cells #[.string ⟨#[]⟩, .slice none 0 0] 33)) (h.below hw0))
  clear h
  obtain ⟨W, hW⟩ : ∃ W, (w.alloc (.cells #[.string ⟨#[]⟩, .slice none 0 0] 33)) = W := ⟨_, rfl⟩
  rw [hW] at hw0 HN y0
  have c0_0 := y0.cell 0 (.string ⟨#[]⟩) rfl
  have f0_0 := y0.frozen 0
  have c0_1 := y0.cell 1 (.slice none 0 0) rfl
  have f0_1 := y0.frozen 1
  go_enter Tryd.func70, Tryd.ntmps70
  go_wp2_with fail
  clear hW
  go_fit HN.out
  rintro e w' ⟨rfl, rfl⟩
  go_wp2
  exact bodyPost_ret (v := .tuple #[.agg #[.string ⟨#[]⟩, .slice none 0 0], .int .i64 1]) (by simp [results, Tryd.results70, go_sem, c0_0, c0_1]) rfl
    ⟨rfl, by repeat (first | exact hw0 | refine Below.setCell ?_ (by simp; try omega) _)⟩
set_option maxRecDepth 100000 in
set_option maxHeartbeats 2000000 in
theorem factor_none (v : Value) (a b : ByteArray) (w : World) (h : NoB w v) : Calls Tryd.prog 41 #[v, .string a, .string b] w fun e w' => e = .returned (.tuple #[.agg #[.int .i64 0, .int .i64 0], .int .i64 1]) ∧ Below w.heap.size w w' := by
  have hw0 : Below w.heap.size w (w.alloc (.cells #[.int .i64 0, .int .i64 0] 23)) := by repeat (first | exact Below.refl _ _ | refine Below.alloc ?_ (by first | (simp; done) | (simp; omega)) _)
  have y0 := Cel.new w 23 #[.int .i64 0, .int .i64 0]
  have HN := Lib.hid (none_yes v (w.alloc (.cells #[.int .i64 0, .int .i64 0] 23)) (h.below hw0))
  clear h
  obtain ⟨W, hW⟩ : ∃ W, (w.alloc (.cells #[.int .i64 0, .int .i64 0] 23)) = W := ⟨_, rfl⟩
  rw [hW] at hw0 HN y0
  have c0_0 := y0.cell 0 (.int .i64 0) rfl
  have f0_0 := y0.frozen 0
  have c0_1 := y0.cell 1 (.int .i64 0) rfl
  have f0_1 := y0.frozen 1
  go_enter Tryd.func41, Tryd.ntmps41
  go_wp2_with fail
  clear hW
  go_fit HN.out
  rintro e w' ⟨rfl, rfl⟩
  go_wp2
  exact bodyPost_ret (v := .tuple #[.agg #[.int .i64 0, .int .i64 0], .int .i64 1]) (by simp [results, Tryd.results41, go_sem, c0_0, c0_1]) rfl
    ⟨rfl, by repeat (first | exact hw0 | refine Below.setCell ?_ (by simp; try omega) _)⟩
set_option maxRecDepth 100000 in
set_option maxHeartbeats 2000000 in
theorem chain_none (v : Value) (u : Value) (w : World) (h : NoB w v) : Calls Tryd.prog 44 #[v, u] w fun e w' => e = .returned (.tuple #[.agg #[.int .i64 0, .int .i64 0], .int .i64 1]) ∧ Below w.heap.size w w' := by
  have hw0 : Below w.heap.size w (w.alloc (.cells #[.int .i64 0, .int .i64 0] 23)) := by repeat (first | exact Below.refl _ _ | refine Below.alloc ?_ (by first | (simp; done) | (simp; omega)) _)
  have y0 := Cel.new w 23 #[.int .i64 0, .int .i64 0]
  have HN := Lib.hid (none_yes v (w.alloc (.cells #[.int .i64 0, .int .i64 0] 23)) (h.below hw0))
  clear h
  obtain ⟨W, hW⟩ : ∃ W, (w.alloc (.cells #[.int .i64 0, .int .i64 0] 23)) = W := ⟨_, rfl⟩
  rw [hW] at hw0 HN y0
  have c0_0 := y0.cell 0 (.int .i64 0) rfl
  have f0_0 := y0.frozen 0
  have c0_1 := y0.cell 1 (.int .i64 0) rfl
  have f0_1 := y0.frozen 1
  go_enter Tryd.func44, Tryd.ntmps44
  go_wp2_with fail
  clear hW
  go_fit HN.out
  rintro e w' ⟨rfl, rfl⟩
  go_wp2
  exact bodyPost_ret (v := .tuple #[.agg #[.int .i64 0, .int .i64 0], .int .i64 1]) (by simp [results, Tryd.results44, go_sem, c0_0, c0_1]) rfl
    ⟨rfl, by repeat (first | exact hw0 | refine Below.setCell ?_ (by simp; try omega) _)⟩
set_option maxRecDepth 100000 in
set_option maxHeartbeats 2000000 in
theorem convert_none (v : Value) (a b : ByteArray) (n : Int) (w : World) (h : NoB w v) : Calls Tryd.prog 37 #[v, .agg #[.string a, .int .i64 n], .string b] w fun e w' => e = .returned (.tuple #[.agg #[.int .i64 0, .int .i64 0], .int .i64 1]) ∧ Below w.heap.size w w' := by
  have hw0 : Below w.heap.size w ((w.alloc (.cells #[.string a, .int .i64 n] 51)).alloc (.cells #[.int .i64 0, .int .i64 0] 23)) := by repeat (first | exact Below.refl _ _ | refine Below.alloc ?_ (by first | (simp; done) | (simp; omega)) _)
  have y0 := (Cel.new w 51 #[.string a, .int .i64 n]).alloc (.cells #[.int .i64 0, .int .i64 0] 23)
  have y1 := Cel.at (w.alloc (.cells #[.string a, .int .i64 n] 51)) (w.heap.size + 1) 23 #[.int .i64 0, .int .i64 0] (by simp)
  have HN := Lib.hid (none_yes v ((w.alloc (.cells #[.string a, .int .i64 n] 51)).alloc (.cells #[.int .i64 0, .int .i64 0] 23)) (h.below hw0))
  clear h
  obtain ⟨W, hW⟩ : ∃ W, ((w.alloc (.cells #[.string a, .int .i64 n] 51)).alloc (.cells #[.int .i64 0, .int .i64 0] 23)) = W := ⟨_, rfl⟩
  rw [hW] at hw0 HN y0 y1
  have c1_0 := y1.cell 0 (.int .i64 0) rfl
  have f1_0 := y1.frozen 0
  have c1_1 := y1.cell 1 (.int .i64 0) rfl
  have f1_1 := y1.frozen 1
  go_enter Tryd.func37, Tryd.ntmps37
  go_wp2_with fail
  clear hW
  go_fit HN.out
  rintro e w' ⟨rfl, rfl⟩
  go_wp2
  exact bodyPost_ret (v := .tuple #[.agg #[.int .i64 0, .int .i64 0], .int .i64 1]) (by simp [results, Tryd.results37, go_sem, c1_0, c1_1]) rfl
    ⟨rfl, by repeat (first | exact hw0 | refine Below.setCell ?_ (by simp; try omega) _)⟩
set_option maxRecDepth 100000 in
set_option maxHeartbeats 2000000 in
theorem whole_none (v : Value) (a b : ByteArray) (n : Int) (w : World) (h : NoB w v) : Calls Tryd.prog 38 #[v, .agg #[.string a, .int .i64 n], .string b] w fun e w' => e = .returned (.tuple #[.agg #[.string ⟨#[]⟩, .int .i64 0], .agg #[.int .i64 0, .int .i64 0], .int .i64 1]) ∧ Below w.heap.size w w' := by
  have hw0 : Below w.heap.size w (((w.alloc (.cells #[.string a, .int .i64 n] 51)).alloc (.cells #[.string ⟨#[]⟩, .int .i64 0] 51)).alloc (.cells #[.int .i64 0, .int .i64 0] 23)) := by repeat (first | exact Below.refl _ _ | refine Below.alloc ?_ (by first | (simp; done) | (simp; omega)) _)
  have y0 := ((Cel.new w 51 #[.string a, .int .i64 n]).alloc (.cells #[.string ⟨#[]⟩, .int .i64 0] 51)).alloc (.cells #[.int .i64 0, .int .i64 0] 23)
  have y1 := (Cel.at (w.alloc (.cells #[.string a, .int .i64 n] 51)) (w.heap.size + 1) 51 #[.string ⟨#[]⟩, .int .i64 0] (by simp)).alloc (.cells #[.int .i64 0, .int .i64 0] 23)
  have y2 := Cel.at ((w.alloc (.cells #[.string a, .int .i64 n] 51)).alloc (.cells #[.string ⟨#[]⟩, .int .i64 0] 51)) (w.heap.size + 1 + 1) 23 #[.int .i64 0, .int .i64 0] (by simp)
  have HN := Lib.hid (convert_none v a b n (((w.alloc (.cells #[.string a, .int .i64 n] 51)).alloc (.cells #[.string ⟨#[]⟩, .int .i64 0] 51)).alloc (.cells #[.int .i64 0, .int .i64 0] 23)) (h.below hw0))
  clear h
  obtain ⟨W, hW⟩ : ∃ W, ((w.alloc (.cells #[.string a, .int .i64 n] 51)).alloc (.cells #[.string ⟨#[]⟩, .int .i64 0] 51)).alloc (.cells #[.int .i64 0, .int .i64 0] 23) = W := ⟨_, rfl⟩
  rw [hW] at hw0 HN y0 y1 y2
  have c0 := y0.cell 0 _ rfl
  have c1 := y0.cell 1 _ rfl
  have HY1 := Lib.hid y1
  have HY2 := Lib.hid y2
  have HW0 := Lib.hid hw0
  clear y0 y1 y2 hw0
  go_enter Tryd.func38, Tryd.ntmps38
  go_upto_region 1 with fail
  clear hW
  go_wp2_with fail
  go_fit HN.out
  rintro e w1 ⟨rfl, hb⟩
  have z1 := (HY1.out.below HY1.out.lt hb).alloc (.cells #[.int .i64 0, .int .i64 0] 23)
  have z2 := (HY2.out.below HY2.out.lt hb).alloc (.cells #[.int .i64 0, .int .i64 0] 23)
  have HB := Lib.hid ((below_then HW0.out hb).alloc (below_then HW0.out hb).size (.cells #[.int .i64 0, .int .i64 0] 23))
  have d0 := z1.cell 0 (.string ⟨#[]⟩) rfl
  have d1 := z1.cell 1 (.int .i64 0) rfl
  have d2 := z2.cell 0 (.int .i64 0) rfl
  have d3 := z2.cell 1 (.int .i64 0) rfl
  have g0 := z1.frozen 0
  have g1 := z1.frozen 1
  have g2 := z2.frozen 0
  have g3 := z2.frozen 1
  clear z1 z2 hb c0 c1
  go_wp2
  exact bodyPost_ret (v := .tuple #[.agg #[.string ⟨#[]⟩, .int .i64 0], .agg #[.int .i64 0, .int .i64 0], .int .i64 1]) (by simp [results, Tryd.results38, go_sem, d0, d1, d2, d3]) rfl
    ⟨rfl, by repeat (first | exact HB.out | refine Below.setCell ?_ (by simp; try omega) _)⟩
end Go.Proofs.YtmibpncmebhbjaaDoor
