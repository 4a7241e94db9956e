/- metro: the ladder of a book. -/
import Derived.Test.YtmibpncmebhbjaaDoorP6
namespace Go.Proofs.YtmibpncmebhbjaaDoor
open Go Go.RowKit Go.Shelf
attribute [local go_sem] Oper.semAt_some

set_option maxRecDepth 100000 in
set_option maxHeartbeats 1000000 in
theorem mladder_no (Bk bm : Nat) (lv gv fv : Value) (st : St) (nm : ByteArray) (w : World) (hb : BookV w Bk bm lv gv fv st) (h : idxE st.ls nm ≠ 0) :
    Calls Tryd.prog 70 #[.pointer (some ⟨Bk, 0, none⟩), .string nm] w fun e w' => e = .returned (.tuple #[.agg #[.string ⟨#[]⟩, .slice none 0 0], .int .i64 4]) ∧ Below w.heap.size w w' := by
  have hw0 := below_alloc' w (.cells #[.string ⟨#[]⟩, .slice none 0 0] 33)
  have y0 := Cel.new w 33 #[.string ⟨#[]⟩, .slice none 0 0]
  have hB := hb.below hw0
  have HN := Lib.hid (none_no Bk bm lv gv fv _ hB.blk)
  have HI := Lib.hid (index_any Bk bm lv gv fv st.ls nm _ hB.blk hB.place)
  rw [show idxE st.ls nm = 4 by rcases hf : findL nm st.ls 0 with _ | k <;> simp [idxE, hf, needF] at h ⊢] at HI
  clear hB hb h
  generalize idxI st.ls nm = I at *
  obtain ⟨W, hW⟩ : ∃ W, w.alloc (.cells #[.string ⟨#[]⟩, .slice none 0 0] 33) = W := ⟨_, rfl⟩
  rw [hW] at hw0 y0 HN HI
  have c0 := y0.cell 0 _ rfl
  have c1 := y0.cell 1 _ rfl
  have f0 := y0.frozen 0
  have f1 := y0.frozen 1
  go_enter Tryd.func70, Tryd.ntmps70
  go_wp2_with fail
  clear hW
  go_fit HN.out
  rintro e w' ⟨rfl, rfl⟩
  go_wp2_with fail
  go_fit HI.out
  rintro e w' ⟨rfl, rfl⟩
  go_wp2
  exact bodyPost_ret (v := .tuple #[.agg #[.string ⟨#[]⟩, .slice none 0 0], .int .i64 4]) (by simp [results, Tryd.results70, go_sem, c0, c1]) rfl
    ⟨rfl, by repeat (first | exact hw0 | refine Below.setCell ?_ (by simp) _)⟩

set_option maxRecDepth 100000 in
set_option maxHeartbeats 1000000 in
theorem mladder_yes (Bk bm : Nat) (lv gv fv : Value) (st : St) (nm : ByteArray) (w : World) (hb : BookV w Bk bm lv gv fv st) (hg : Good st) (h : idxE st.ls nm = 0) :
    Calls Tryd.prog 70 #[.pointer (some ⟨Bk, 0, none⟩), .string nm] w fun e w' => ∃ A' c', e = .returned (.tuple #[.agg #[.string (ladOf st (idxI st.ls nm)).1, .slice A' (ladOf st (idxI st.ls nm)).2.length c'], .int .i64 0]) ∧ Below w.heap.size w w' ∧ Sl w' 2 (.slice A' (ladOf st (idxI st.ls nm)).2.length c') (unitsV (ladOf st (idxI st.ls nm)).2) := by
  have hI := idxI_lt h
  have hw0 := below_alloc' w (.cells #[.string ⟨#[]⟩, .slice none 0 0] 33)
  have y0 := Cel.new w 33 #[.string ⟨#[]⟩, .slice none 0 0]
  have hB := hb.below hw0
  have HN := Lib.hid (none_no Bk bm lv gv fv _ hB.blk)
  have HIX := Lib.hid (index_any Bk bm lv gv fv st.ls nm _ hB.blk hB.place)
  rw [h] at HIX
  have hlen : (ladOf st (idxI st.ls nm)).2.length ≤ 12 := by
    have := hg.ok _ (List.getElem_mem hI)
    rw [show ladOf st (idxI st.ls nm) = (st.ls[idxI st.ls nm].nm, st.ls[idxI st.ls nm].us) by unfold ladOf; rw [List.getElem?_eq_getElem hI]]
    exact (checkF_zero this).2.2
  obtain ⟨A, c, rfl, hlc, hcm, hlk⟩ := hB.lads.open
  obtain ⟨b, o, A', c', e, _, h1, h2, h3⟩ := hlk _ hI
  subst e
  have q0 := hB.blk.cell 0 _ rfl
  rw [show st.ls[idxI st.ls nm].nm = (ladOf st (idxI st.ls nm)).1 by unfold ladOf; rw [List.getElem?_eq_getElem hI]] at h1
  rw [show st.ls[idxI st.ls nm].us = (ladOf st (idxI st.ls nm)).2 by unfold ladOf; rw [List.getElem?_eq_getElem hI]] at h2 h3
  have HS := Lib.hid h3
  clear hB hb h hg hlk h3
  generalize (ladOf st (idxI st.ls nm)).1 = x at *
  generalize (ladOf st (idxI st.ls nm)).2 = us at *
  generalize idxI st.ls nm = I at *
  obtain ⟨W, hW⟩ : ∃ W, w.alloc (.cells #[.string ⟨#[]⟩, .slice none 0 0] 33) = W := ⟨_, rfl⟩
  rw [hW] at hw0 y0 HN HIX h1 h2 q0 HS
  have HC := Lib.hid (copied_any x A' c' us W HS.out (by omega))
  have HY := Lib.hid y0
  have HW0 := Lib.hid hw0
  have hsz : w.heap.size < W.heap.size := y0.lt
  clear y0 hw0
  go_enter Tryd.func70, Tryd.ntmps70
  go_wp2_with fail
  clear hW
  go_fit HN.out
  rintro e w' ⟨rfl, rfl⟩
  go_wp2_with fail
  go_fit HIX.out
  rintro e w' ⟨rfl, rfl⟩
  go_wp2_with fail
  go_fit HC.out
  rintro e w1 ⟨A2, c2, rfl, hb1, hown⟩
  have z := HY.out.below HY.out.lt hb1
  have f0 := z.frozen 0
  have f1 := z.frozen 1
  have c0 := z.cell 0 _ rfl
  have c1 := z.cell 1 _ rfl
  have HS2 := Lib.hid (Sl.of_own (own_other (own_other hown ⟨w.heap.size, 0, none⟩ hsz (.string x)) ⟨w.heap.size, 1, none⟩ hsz (.slice A2 us.length c2)))
  have k := z.set2 (.string x) (.slice A2 us.length c2)
  have k0 := k.cell 0 _ rfl
  have k1 := k.cell 1 _ rfl
  have HB := Lib.hid (below_then HW0.out hb1)
  clear z k hb1 hown h1 h2 q0
  go_wp2
  exact bodyPost_ret (v := .tuple #[.agg #[.string x, .slice A2 us.length c2], .int .i64 0]) (by simp [results, Tryd.results70, go_sem, k0, k1]) rfl
    ⟨A2, c2, rfl, (HB.out.setCell (p := ⟨w.heap.size, 0, none⟩) (by simp) _).setCell (p := ⟨w.heap.size, 1, none⟩) (by simp) _, HS2.out⟩
end Go.Proofs.YtmibpncmebhbjaaDoor
