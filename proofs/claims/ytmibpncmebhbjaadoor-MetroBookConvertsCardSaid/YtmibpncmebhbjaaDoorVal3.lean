/- The walk of valid. -/
import Derived.Test.YtmibpncmebhbjaaDoorVal2
import Derived.Deep.RegionLaw
namespace Go.Proofs.YtmibpncmebhbjaaDoor
open Go Go.RowKit Go.Shelf
attribute [local go_sem] Oper.semAt_some

theorem own_ge {w : World} {base : Nat} {e : TypeId} {size n : Nat} {v : Value} {xs : List Value} (h : w.ownsRow base e size v n xs) {g : Nat} (hg : v.ownBlock = some g) : base ≤ g := by
  obtain ⟨hl, ⟨rfl, rfl⟩ | ⟨g', cap, cur, rfl, hb, r⟩⟩ := h
  · simp [Value.ownBlock] at hg
  · simp [Value.ownBlock] at hg; omega
theorem own_alloc {w : World} {base : Nat} {e : TypeId} {size n : Nat} {v : Value} {xs : List Value} (h : w.ownsRow base e size v n xs) {o : Obj} : (w.alloc o).ownsRow base e size v n xs := h.alloc o
theorem own_ne {w : World} {base : Nat} {e : TypeId} {size n : Nat} {v : Value} {xs : List Value} (h : w.ownsRow base e size v n xs) {p : Addr} (hp : v.ownBlock ≠ some p.block) (x : Value) : (w.setCell p x).ownsRow base e size v n xs := by
  obtain ⟨hl, ⟨rfl, rfl⟩ | ⟨g, cap, cur, rfl, hg, hh, r⟩⟩ := h
  · exact ⟨hl, .inl ⟨rfl, rfl⟩⟩
  · refine ⟨hl, .inr ⟨g, cap, cur, rfl, hg, ?_, r⟩⟩
    rw [← hh]
    simp only [World.setCell, Array.getElem?_modify]
    rw [if_neg (fun e => hp (by simp [Value.ownBlock, e]))]
theorem own_lit {w : World} {base B : Nat} {e : TypeId} {size n : Nat} {vs : Array Value} (h : Cel w B e vs) (hb : base ≤ B) (hs : vs.size = n * size) (hm : n ≤ maxLen) : w.ownsRow base e size (.slice (some ⟨B, 0, none⟩) n n) n vs.toList := by
  refine ⟨by simpa using hs, .inr ⟨B, n, vs, rfl, hb, h, Nat.le_refl _, hm, ?_, ?_⟩⟩
  · first | exact hs | (rw [hs])
  · first | (rw [List.take_of_length_le (by simp [hs])]) | simp [hs]
def sigs : Array Value := #[.string ⟨#[97]⟩, .string ⟨#[98]⟩, .string ⟨#[99]⟩, .string ⟨#[100]⟩, .string ⟨#[101]⟩, .string ⟨#[102]⟩, .string ⟨#[103]⟩, .string ⟨#[104]⟩]
theorem sigs_get {K : Nat} (h : K ≤ 7) : sigs[K]? = some (.string (sgnB K)) := by
  have : K = 0 ∨ K = 1 ∨ K = 2 ∨ K = 3 ∨ K = 4 ∨ K = 5 ∨ K = 6 ∨ K = 7 := by omega
  rcases this with e | e | e | e | e | e | e | e <;> subst e <;> rfl

set_option maxRecDepth 100000 in
set_option maxHeartbeats 2000000 in
theorem valid_any (nm : ByteArray) (fs : List Int) (v : Value) (w : World) (hv : Sl w 1 v (fs.map (Value.int .i64))) (hfs : ∀ f ∈ fs, Bd f) :
    Calls Tryd.prog 49 #[.string nm, v] w fun e w' => ∃ A c, e = .returned (.agg #[.string nm, .slice A (validU fs).length c]) ∧ Sl w' 2 (.slice A (validU fs).length c) (unitsV (validU fs)) ∧ Below w.heap.size w w' := by
  obtain ⟨A, c, rfl, hlc, hcm, hcell⟩ := hv.open1
  simp only [List.length_map] at hlc ⊢
  have HC := Lib.hid hcell
  have HF := Lib.hid hfs
  clear hv hcell hfs
  go_enter Tryd.func49, Tryd.ntmps49
  go_wp2
  have Y0 := ((Cel.new w 33 #[.string ⟨#[]⟩, .slice none 0 0]).alloc (.cells sigs 9)).alloc (.cells #[.string ⟨#[97]⟩, .int .i64 1] 78) |>.alloc (.cells #[.string nm, .slice (some ⟨w.heap.size + 1 + 1, 0, none⟩) 1 1] 33)
  have Y1 := ((Cel.at (w.alloc (.cells #[.string ⟨#[]⟩, .slice none 0 0] 33)) (w.heap.size + 1) 9 sigs (by simp)).alloc (.cells #[.string ⟨#[97]⟩, .int .i64 1] 78)).alloc (.cells #[.string nm, .slice (some ⟨w.heap.size + 1 + 1, 0, none⟩) 1 1] 33)
  have Y2 := (Cel.at ((w.alloc (.cells #[.string ⟨#[]⟩, .slice none 0 0] 33)).alloc (.cells sigs 9)) (w.heap.size + 1 + 1) 78 #[.string ⟨#[97]⟩, .int .i64 1] (by simp)).alloc (.cells #[.string nm, .slice (some ⟨w.heap.size + 1 + 1, 0, none⟩) 1 1] 33)
  have Y3 := Cel.at (((w.alloc (.cells #[.string ⟨#[]⟩, .slice none 0 0] 33)).alloc (.cells sigs 9)).alloc (.cells #[.string ⟨#[97]⟩, .int .i64 1] 78)) (w.heap.size + 1 + 1 + 1) 33 #[.string nm, .slice (some ⟨w.heap.size + 1 + 1, 0, none⟩) 1 1] (by simp)
  have hB0 : Below w.heap.size w ((((w.alloc (.cells #[.string ⟨#[]⟩, .slice none 0 0] 33)).alloc (.cells sigs 9)).alloc (.cells #[.string ⟨#[97]⟩, .int .i64 1] 78)).alloc (.cells #[.string nm, .slice (some ⟨w.heap.size + 1 + 1, 0, none⟩) 1 1] 33)) := (((below_alloc' _ _).alloc (by simp) _).alloc (by simp; omega) _).alloc (by simp; omega) _
  obtain ⟨W, hW⟩ : ∃ W, ((((w.alloc (.cells #[.string ⟨#[]⟩, .slice none 0 0] 33)).alloc (.cells sigs 9)).alloc (.cells #[.string ⟨#[97]⟩, .int .i64 1] 78)).alloc (.cells #[.string nm, .slice (some ⟨w.heap.size + 1 + 1, 0, none⟩) 1 1] 33)) = W := ⟨_, rfl⟩
  rw [hW] at Y0 Y1 Y2 Y3 hB0
  unfold sigs at hW
  rw [hW]
  clear hW
  have hU0 := own_lit (base := w.heap.size + 1 + 1) (n := 1) (size := 2) Y2 (Nat.le_refl _) rfl (by decide)
  go_loopw [7] (fun t wr => ∃ (k : Nat) (v : Value), t = .int .i64 k ∧ k ≤ fs.length ∧ k ≤ 7 ∧ Cel wr (w.heap.size + 1 + 1 + 1) 33 #[.string nm, v] ∧ wr.ownsRow (w.heap.size + 1 + 1) 78 2 v (k + 1) (unitsV (vu0 :: vu 0 (fs.take k))) ∧ v.ownBlock ≠ some (w.heap.size + 1 + 1 + 1) ∧
    Cel wr (w.heap.size + 1) 9 sigs ∧ Cel wr w.heap.size 33 #[.string ⟨#[]⟩, .slice none 0 0] ∧ Below w.heap.size w wr) (fun t _ => fs.length - (intOf t).toNat)
  case atStart => exact ⟨0, _, rfl, by omega, by omega, Y3, hU0, by simp [Value.ownBlock], Y1, Y0, hB0⟩
  case round =>
    obtain ⟨k, v, rfl, hk, hk7, hY, hown, hvb, hSg, hR, hB⟩ := hrel
    clear hU0 hB0 Y0 Y1 Y2 Y3
    by_cases hlt : k < fs.length
    · by_cases h7 : k < 7
      · obtain ⟨ad, rfl, q0⟩ := HC.out k (.int .i64 fs[k]) (by rw [List.getElem?_map, List.getElem?_eq_getElem hlt]; rfl)
        have HTK := Lib.hid (show vu 0 (fs.take (k + 1)) = vu 0 (fs.take k) ++ [mkV k fs[k]] by rw [List.take_succ_eq_append_getElem hlt, vu_snoc, List.length_take, Nat.min_eq_left hk, Nat.zero_add])
        have hbf := HF.out fs[k] (List.getElem_mem _)
        generalize fs[k] = f at *
        obtain ⟨f1, f2⟩ := hbf
        have f3 := bring9 f
        obtain ⟨f3, f4⟩ := f3
        have hKl : k + 1 < 8 := by omega
        have hKw : IntKind.i64.wrap ((k : Int) + 1) = (k : Int) + 1 := by rw [IntKind.wrap_i64]; omega
        have hKx : IntKind.i64.wrap (2 + f % 9) = 2 + f % 9 := by rw [IntKind.wrap_i64]; omega
        have hKi : (k : Int) + 1 < 8 := by omega
        have hKj : (0 : Int) ≤ (k : Int) + 1 := by omega
        have hKn : ((k : Int) + 1).toNat = k + 1 := by omega
        have s0 := hSg.cell (k + 1) (.string (sgnB (k + 1))) (sigs_get (by omega))
        have e0 := below_cell hB q0
        have c1 := hY.cell 1 v rfl
        obtain ⟨A', c', rfl, hown'⟩ := own_shape hown
        have cA := ((show Cel (World.drew wr) _ _ _ from hY).alloc (.cells #[.string (sgnB (k + 1)), .int .i64 (2 + f % 9)] 78)).cell 1 (.slice A' (k + 1) c') rfl
        have hl6 := hY.lt
        have hl7 : ¬ (w.heap.size + 1 + 1 + 1 = wr.heap.size) := by omega
        have HB9 := Lib.hid (show bringF f 9 = f % 9 from if_neg (by decide))
        have hBr := fun W => bring_any f 9 W f1 f2 (by decide) (by decide)
        rw [HB9.out] at hBr
        have HBr := Lib.hid hBr
        have HSG := Lib.hid hSg
        have HY := Lib.hid hY
        have HO := Lib.hid hown
        have HR := Lib.hid hR
        have HVB := Lib.hid hvb
        have HE0 := Lib.hid q0
        have HBl := Lib.hid hB
        clear hBr hSg hY hown hR hvb q0 hown'
        go_wp2
        go_region_law (first
          | (go_simp; go_at_call 36; refine (HBr.out _).mono ?_; rintro e w' ⟨rfl, rfl⟩)
          | (refine stepUnitB (.tmp 24) (.tmp 37) rfl rfl (by rfl) (by rfl) (own_alloc (show World.ownsRow (World.drew _) _ _ _ _ _ _ from HO.out)) (Sl.new (s := 2) _ 78 1 1 #[.string (sgnB (k + 1)), .int .i64 (2 + f % 9)] rfl (Nat.le_refl _) (by decide)) (by simp [Value.oneCell']) (N := k + 2) (by simp; omega) (by omega) (by have := HBl.out.size; have := HY.out.lt; simp; omega) ?_; intro A1 c1 w1 hap; have hA := own_alloc (o := .cells #[.string (sgnB (k + 1)), .int .i64 (2 + f % 9)] 78) (show World.ownsRow (World.drew wr) _ _ _ _ _ _ from HO.out); have y1 := ((show Cel (World.drew wr) _ _ _ from HY.out).alloc (.cells #[.string (sgnB (k + 1)), .int .i64 (2 + f % 9)] 78)).kept hap.grown (fun e => HVB.out e.symm); have sg1 := ((show Cel (World.drew wr) _ _ _ from HSG.out).alloc (.cells #[.string (sgnB (k + 1)), .int .i64 (2 + f % 9)] 78)).kept hap.grown (fun e => by have := own_ge hA e.symm; omega); have r1 := ((show Cel (World.drew wr) _ _ _ from HR.out).alloc (.cells #[.string (sgnB (k + 1)), .int .i64 (2 + f % 9)] 78)).kept hap.grown (fun e => by have := own_ge hA e.symm; omega); have hb1 := below_of_own hap.grown hA ((below_drew HBl.out).alloc HBl.out.size (.cells #[.string (sgnB (k + 1)), .int .i64 (2 + f % 9)] 78)) (by omega); have g1 := y1.cell 1 (.slice A' (k + 1) c') rfl; have g2 := y1.frozen 1; have hs1 := sg1.cell (k + 1) (.string (sgnB (k + 1))) (sigs_get (by omega)); have hs2 := below_cell hb1 HE0.out; have hs3 := (sg1.other (p := ⟨w.heap.size + 1 + 1 + 1, 1, none⟩) (by first | (simp; done) | (simp; omega)) (.slice A1 (k + 2) c1)).cell (k + 1) (.string (sgnB (k + 1))) (sigs_get (by omega)); have hs4 := below_cell (hb1.setCell (p := ⟨w.heap.size + 1 + 1 + 1, 1, none⟩) (by simp; omega) (.slice A1 (k + 2) c1)) HE0.out; have HY1 := Lib.hid y1; have HSG1 := Lib.hid sg1; have HR1 := Lib.hid r1; have HB1 := Lib.hid hb1; have HOW := Lib.hid hap.own; have HBK := Lib.hid hap.block; clear hA hap y1 sg1 r1 hb1))
        all_goals (
          go_wp2
          have hvb1 : (Value.slice A1 (k + 2) c1).ownBlock ≠ some (w.heap.size + 1 + 1 + 1) := by
            have h1 := HBK.out
            have h2 := HVB.out
            have h3 := HY.out.lt
            rcases h1 with e | e
            · rw [e]; exact h2
            · rw [e]; intro e'; injection e' with e'; simp at e'; omega
          go_roundw
          case rel =>
            refine ⟨k + 1, .slice A1 (k + 2) c1, by simp, hlt, h7, HY1.out.setAt 1 _, ?_, hvb1, HSG1.out.other (by first | (simp; done) | (simp; omega)) _, HR1.out.other (by simp; omega) _, HB1.out.setCell (p := ⟨w.heap.size + 1 + 1 + 1, 1, none⟩) (by simp; omega) _⟩
            have h1 := own_ne HOW.out (p := ⟨w.heap.size + 1 + 1 + 1, 1, none⟩) hvb1 (.slice A1 (k + 2) c1)
            rw [HTK.out]
            simpa [unitsV, unV, mkV] using h1
          case measure => simp [intOf]; omega)
      · have hk7' : k = 7 := by omega
        have HU := Lib.hid (show vu0 :: vu 0 (fs.take k) = validU fs by rw [hk7']; rfl)
        have HL := Lib.hid (show k + 1 = (validU fs).length by rw [← HU.out]; simp [vu_length]; omega)
        have d7 : decide (k < 7) = false := decide_eq_false h7
        clear hk7' hk7
        have c0 := hY.cell 0 (.string nm) rfl
        have c1 := hY.cell 1 v rfl
        have f0 := hR.cell 0 (.string ⟨#[]⟩) rfl
        have f1 := hR.cell 1 (.slice none 0 0) rfl
        have f2 := hR.frozen 0
        have f3 := hR.frozen 1
        have k5 := hR.set2 (.string nm) v
        have r0 := k5.cell 0 (.string nm) rfl
        have r1 := k5.cell 1 v rfl
        obtain ⟨A', c', rfl, hown'⟩ := own_shape hown
        have HO := Lib.hid (own_other (own_other hown' ⟨w.heap.size, 0, none⟩ (by simp; omega) (.string nm)) ⟨w.heap.size, 1, none⟩ (by simp; omega) (.slice A' (k + 1) c'))
        have HBB := Lib.hid ((hB.setCell (p := ⟨w.heap.size, 0, none⟩) (by simp) (.string nm)).setCell (p := ⟨w.heap.size, 1, none⟩) (by simp) (.slice A' (k + 1) c'))
        clear hY hR hown hown' hB hSg k5 hvb
        go_wp2
        exact bodyPost_ret (v := .agg #[.string nm, .slice A' (k + 1) c']) (by simp [results, Tryd.results49, go_sem, r0, r1]) rfl
          ⟨A', c', by rw [HL.out], by rw [← HL.out, ← HU.out]; exact Sl.of_own HO.out, HBB.out⟩
    · have HU := Lib.hid (show vu0 :: vu 0 (fs.take k) = validU fs by rw [List.take_of_length_le (by omega), validU, List.take_of_length_le (by omega)])
      have HL := Lib.hid (show k + 1 = (validU fs).length by rw [← HU.out]; simp [vu_length]; omega)
      have c0 := hY.cell 0 (.string nm) rfl
      have c1 := hY.cell 1 v rfl
      have f0 := hR.cell 0 (.string ⟨#[]⟩) rfl
      have f1 := hR.cell 1 (.slice none 0 0) rfl
      have f2 := hR.frozen 0
      have f3 := hR.frozen 1
      have k5 := hR.set2 (.string nm) v
      have r0 := k5.cell 0 (.string nm) rfl
      have r1 := k5.cell 1 v rfl
      obtain ⟨A', c', rfl, hown'⟩ := own_shape hown
      have HO := Lib.hid (own_other (own_other hown' ⟨w.heap.size, 0, none⟩ (by simp; omega) (.string nm)) ⟨w.heap.size, 1, none⟩ (by simp; omega) (.slice A' (k + 1) c'))
      have HBB := Lib.hid ((hB.setCell (p := ⟨w.heap.size, 0, none⟩) (by simp) (.string nm)).setCell (p := ⟨w.heap.size, 1, none⟩) (by simp) (.slice A' (k + 1) c'))
      clear hY hR hown hown' hB hSg k5 hvb
      go_wp2
      exact bodyPost_ret (v := .agg #[.string nm, .slice A' (k + 1) c']) (by simp [results, Tryd.results49, go_sem, r0, r1]) rfl
        ⟨A', c', by rw [HL.out], by rw [← HL.out, ← HU.out]; exact Sl.of_own HO.out, HBB.out⟩
end Go.Proofs.YtmibpncmebhbjaaDoor
