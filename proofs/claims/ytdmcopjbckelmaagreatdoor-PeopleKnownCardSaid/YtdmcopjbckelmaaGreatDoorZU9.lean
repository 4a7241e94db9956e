/- Walks of the reference: Seals. Conditions: those stated. Walks of the package people: Seals. Conditions: those stated. -/
import Derived.Test.YtdmcopjbckelmaaGreatDoorZU4
import Derived.Test.YtdmcopjbckelmaaGreatDoorZIB
import Derived.Test.YtdmcopjbckelmaaGreatDoorZF1
import Derived.Test.YtdmcopjbckelmaaGreatDoorZU1
import Derived.Test.YtdmcopjbckelmaaGreatDoorZG
import Derived.Test.YtdmcopjbckelmaaGreatDoorZJ1
import Derived.BigQuiet
namespace Go.Proofs.YtdmcopjbckelmaaGreatDoor
section
open Go Go.RowKit Go.Shelf
attribute [local go_sem] Oper.semAt_some

/-- The seals that have been found among pairs of deeds. -/
def SealR (ds : List De) (i k : Nat) (L : List ByteArray) : Prop :=
  IncS L ∧ L.length ≤ 64 * i + k ∧ ∀ s, s ∈ L ↔ ∃ (i' k' : Nat) (d e : De), (i' < i ∨ (i' = i ∧ k' < k)) ∧ k' < i' ∧ ds[i']? = some d ∧ ds[k']? = some e ∧ d.sl ≠ ByteArray.empty ∧ e.sl = d.sl ∧ e.sealer ≠ d.sealer ∧ s = d.sl
theorem SealR.start (ds : List De) : SealR ds 0 0 [] :=
  ⟨List.Pairwise.nil, by simp, fun s => ⟨(fun q => by cases q), fun ⟨i', k', _, _, q, _⟩ => by omega⟩⟩
theorem SealR.skip {ds : List De} {i k : Nat} {L : List ByteArray} {d e : De} (h : SealR ds i k L) (hi : ds[i]? = some d) (hk : ds[k]? = some e) (hn : ¬ (d.sl ≠ ByteArray.empty ∧ e.sl = d.sl ∧ e.sealer ≠ d.sealer)) : SealR ds i (k + 1) L := by
  refine ⟨h.1, by have := h.2.1; omega, fun s => (h.2.2 s).trans ?_⟩
  constructor
  · rintro ⟨i', k', d', e', q1, q⟩
    exact ⟨i', k', d', e', by omega, q⟩
  · rintro ⟨i', k', d', e', q1, q2, q3, q4, q5, q6, q7, q8⟩
    refine ⟨i', k', d', e', ?_, q2, q3, q4, q5, q6, q7, q8⟩
    rcases q1 with q1 | ⟨q1, q1'⟩
    · exact .inl q1
    · rcases Nat.lt_succ_iff_lt_or_eq.1 q1' with z | z
      · exact .inr ⟨q1, z⟩
      · rw [q1, hi] at q3
        rw [z, hk] at q4
        cases q3
        cases q4
        exact absurd ⟨q5, q6, q7⟩ hn
theorem SealR.put {ds : List De} {i k : Nat} {L : List ByteArray} {d e : De} (h : SealR ds i k L) (hi : ds[i]? = some d) (hk : ds[k]? = some e) (hki : k < i) (h1 : d.sl ≠ ByteArray.empty) (h2 : e.sl = d.sl) (h3 : e.sealer ≠ d.sealer) : SealR ds i (k + 1) (insS d.sl L) := by
  refine ⟨insS_inc h.1, by have := h.2.1; have := insS_length d.sl L; omega, fun s => ?_⟩
  rw [mem_insS, h.2.2 s]
  constructor
  · rintro (q | ⟨i', k', d', e', q1, q⟩)
    · exact ⟨i, k, d, e, by omega, hki, hi, hk, h1, h2, h3, q⟩
    · exact ⟨i', k', d', e', by omega, q⟩
  · rintro ⟨i', k', d', e', q1, q2, q3, q4, q5, q6, q7, q8⟩
    rcases q1 with q1 | ⟨q1, q1'⟩
    · exact .inr ⟨i', k', d', e', .inl q1, q2, q3, q4, q5, q6, q7, q8⟩
    · rcases Nat.lt_succ_iff_lt_or_eq.1 q1' with z | z
      · exact .inr ⟨i', k', d', e', .inr ⟨q1, z⟩, q2, q3, q4, q5, q6, q7, q8⟩
      · rw [q1, hi] at q3
        cases q3
        exact .inl q8
theorem SealR.next {ds : List De} {i k : Nat} {L : List ByteArray} (h : SealR ds i k L) (hi : i ≤ k) (hk : k ≤ 64) : SealR ds (i + 1) 0 L := by
  refine ⟨h.1, by have := h.2.1; omega, fun s => (h.2.2 s).trans ?_⟩
  constructor
  · rintro ⟨i', k', d', e', q1, q⟩
    exact ⟨i', k', d', e', by omega, q⟩
  · rintro ⟨i', k', d', e', q1, q2, q⟩
    exact ⟨i', k', d', e', by omega, q2, q⟩
theorem SealR.all {ds : List De} {i : Nat} {L : List ByteArray} (h : SealR ds i 0 L) (hi : ds.length ≤ i) : L = sealsF ds := by
  refine incS_ext h.1 (sealsF_inc ds) fun s => ?_
  rw [h.2.2 s, mem_sealsF, sealB_iff]
  constructor
  · rintro ⟨i', k', d, e, q1, q2, q3, q4, q5, q6, q7, q8⟩
    rw [q8]
    exact ⟨q5, d, List.mem_of_getElem? q3, e, List.mem_of_getElem? q4, rfl, q6, q7⟩
  · rintro ⟨q0, d, hd, e, he, q1, q2, q3⟩
    obtain ⟨m, hm⟩ := List.mem_iff_getElem?.1 hd
    obtain ⟨j, hj⟩ := List.mem_iff_getElem?.1 he
    have hml := (List.getElem?_eq_some_iff.1 hm).1
    have hjl := (List.getElem?_eq_some_iff.1 hj).1
    rcases Nat.lt_trichotomy m j with z | z | z
    · exact ⟨j, m, e, d, .inl (by omega), z, hj, hm, by rw [q2]; exact q0, by rw [q1, q2], fun y => q3 y.symm, q2.symm⟩
    · rw [z, hj] at hm
      cases hm
      exact absurd rfl q3
    · exact ⟨m, j, d, e, .inl (by omega), z, hm, hj, by rw [q1]; exact q0, by rw [q1, q2], q3, q1.symm⟩
set_option maxRecDepth 100000 in
set_option maxHeartbeats 8000000 in
theorem rseals_bad (r : Int) (hr : r = 3 ∨ r = 102) (v : Value) (ds : List De) (w : World) (h : DeedsV w v ds) (hs : ShortDs ds) (hc : checkDF ds = r) :
    Calls Tryz.prog 50 #[v] w (NamesP [] r w) := by
  have HK := Lib.hid (rcheckDeeds_any v ds w h hs)
  rw [hc] at HK
  obtain ⟨A, c, rfl, _⟩ := h.shape
  clear h hs hc
  rcases hr with rfl | rfl
  all_goals
    go_enter Tryz.func50, Tryz.ntmps50
    go_wp2_with fail
    refine HK.out.mono ?_
    rintro e w1 ⟨rfl, hb1⟩
    have HB := Lib.hid hb1
    clear hb1
    go_wp2
    go_ret2
    exact ⟨HB.out, _, rfl, Sl.nil0 _ _⟩
set_option maxRecDepth 100000 in
set_option maxHeartbeats 8000000 in
theorem rseals_good (v : Value) (ds : List De) (w : World) (h : DeedsV w v ds) (hs : ShortDs ds) (hc : checkDF ds = 0) :
    Calls Tryz.prog 50 #[v] w (NamesP (sealsF ds) 0 w) := by
  have HK := Lib.hid (rcheckDeeds_any v ds w h hs)
  rw [hc] at HK
  have h64 := (checkDF_few hc).1
  obtain ⟨A, c, rfl, h⟩ := h.shape
  obtain ⟨_, a1, a2⟩ := h.many
  have HD := Lib.hid (fun q => h.deed q)
  have HAd := Lib.hid (fun (l : List ByteArray) (s : ByteArray) (A : Option Addr) (c : Nat) (w' : World) (hs : Sl w' 1 (.slice A l.length c) (namesV l)) (hi : IncS l) (hl : l.length ≤ 5000) => radded_any (.slice A l.length c) l s w' hs hi (by omega))
  have HS0 := Lib.hid (SealR.start ds)
  clear h hs hc
  go_enter Tryz.func50, Tryz.ntmps50
  go_wp2_with fail
  refine HK.out.mono ?_
  rintro e w1 ⟨rfl, hb1⟩
  have HB1 := Lib.hid hb1
  clear hb1 HK
  go_wp2
  go_loopw [5, 6] (fun v5 t6 wr => ∃ (i : Nat) (L : List ByteArray) (A : Option Addr) (c : Nat), t6 = .int .i64 i ∧ i ≤ ds.length ∧ v5 = .slice A L.length c ∧ Hid (SealR ds i 0 L) ∧ Hid (Sl wr 1 (.slice A L.length c) (namesV L)) ∧ Hid (Below w.heap.size w wr)) (fun _ t6 _ => ds.length - (intOf t6).toNat)
  case atStart => exact ⟨0, [], none, 0, rfl, by omega, rfl, HS0.out, Sl.nil0 _ _, HB1.out⟩
  case round =>
    clear HB1 HS0
    obtain ⟨i, L, A5, c5, rfl, hi, rfl, HS, HL, HB⟩ := hrel
    obtain ⟨wo, hwo⟩ : ∃ wo, wo = wr := ⟨_, rfl⟩
    rw [← hwo] at HL HB ⊢
    clear hwo
    by_cases hlt : i < ds.length
    · have hii : (i : Int) < (ds.length : Int) := by omega
      have hi0 : (0 : Int) ≤ (i : Int) := by omega
      obtain ⟨b0, o0, rfl, _, hce⟩ := HD.out (by omega)
      obtain ⟨d, hgi⟩ : ∃ d, ds[i]? = some d := ⟨_, List.getElem?_eq_getElem hlt⟩
      have HCe := Lib.hid (fun k e hk => show w.cell? ⟨b0, o0 + k * 5 + 2, none⟩ = some (.string e.sealer) ∧ w.cell? ⟨b0, o0 + k * 5 + 3, none⟩ = some (.string e.sl) from ⟨(hce k e hk).2.2.1, (hce k e hk).2.2.2.1⟩)
      have HGi := Lib.hid (HCe.out i d hgi)
      have HPt := Lib.hid (fun k e L (h : SealR ds i k L) (hk : ds[k]? = some e) hki h1 h2 h3 => h.put hgi hk hki h1 h2 h3)
      have HSk := Lib.hid (fun k e L (h : SealR ds i k L) (hk : ds[k]? = some e) hn => h.skip hgi hk hn)
      clear hce hgi
      obtain ⟨nm, yr, se, sl, wit⟩ := d
      simp only at HGi HPt HSk
      go_wp2
      go_loopw [5, 7] (fun v5 t7 wr => ∃ (k : Nat) (L : List ByteArray) (A : Option Addr) (c : Nat), t7 = .int .i64 k ∧ k ≤ i ∧ v5 = .slice A L.length c ∧ Hid (SealR ds i k L) ∧ Hid (Sl wr 1 (.slice A L.length c) (namesV L)) ∧ Hid (Below w.heap.size w wr)) (fun _ t7 _ => i - (intOf t7).toNat)
      case atStart => exact ⟨0, L, A5, c5, rfl, by omega, rfl, HS.out, HL.out, HB.out⟩
      case round =>
        clear HS HL HB
        obtain ⟨k, L, A5, c5, rfl, hk, rfl, HS, HL, HB⟩ := hrel
        by_cases hlk : k < i
        · have hki : (k : Int) < (i : Int) := by omega
          have hk0 : (0 : Int) ≤ (k : Int) := by omega
          have hkl : (k : Int) < (ds.length : Int) := by omega
          obtain ⟨e, hgk⟩ : ∃ e, ds[k]? = some e := ⟨_, List.getElem?_eq_getElem (by omega)⟩
          have g2 := below_cell HB.out HGi.out.1
          have g3 := below_cell HB.out HGi.out.2
          have e2 := below_cell HB.out (HCe.out k e hgk).1
          have e3 := below_cell HB.out (HCe.out k e hgk).2
          have HPk := Lib.hid (HPt.out k e L HS.out hgk hlk)
          have HNk := Lib.hid (HSk.out k e L HS.out hgk)
          have HLl := Lib.hid (show L.length ≤ 5000 by have := HS.out.2.1; omega)
          have HIn := Lib.hid HS.out.1
          clear hgk HS
          obtain ⟨nm', yr', se', sl', wit'⟩ := e
          simp only at e2 e3 HPk HNk
          by_cases q1 : sl = ByteArray.empty
          · have b1 : sl.toList.isEmpty = true := by rw [q1]; kernel_rfl
            have HN := Lib.hid (HNk.out (fun z => z.1 q1))
            clear q1 HPk HNk
            go_upto_region 11 with fail
            go_quiet (fail)
            go_wp2
            exact ⟨⟨k + 1, L, A5, c5, by go_num, by omega, rfl, HN.out, HL.out, below_drewN HB.out _⟩, by simp [intOf]; omega⟩
          · have b1 : sl.toList.isEmpty = false := by
              rw [Bool.eq_false_iff]
              intro z
              refine q1 (data_inj ?_)
              rw [ByteArray.toList_eq] at z
              exact List.isEmpty_iff.1 z
            by_cases q2 : sl' = sl
            · have b2 : (sl'.toList == sl.toList) = true := by rw [q2]; simp
              by_cases q3 : se' = se
              · have b3 : (se'.toList != se.toList) = false := by rw [q3]; simp
                have b4 : (se'.toList == se.toList) = true := by rw [q3]; simp
                have HN := Lib.hid (HNk.out (fun z => z.2.2 q3))
                clear q1 q2 q3 HPk HNk
                go_upto_region 11 with fail
                go_quiet (fail)
                go_wp2
                exact ⟨⟨k + 1, L, A5, c5, by go_num, by omega, rfl, HN.out, HL.out, below_drewN HB.out _⟩, by simp [intOf]; omega⟩
              · have b4 : (se'.toList == se.toList) = false := by rw [Bool.eq_false_iff]; intro z; exact q3 ((Lib.bytes_beq_iff _ _).1 z)
                have b3 : (se'.toList != se.toList) = true := by unfold bne; rw [b4]; rfl
                have HN := Lib.hid (HPk.out q1 q2 q3)
                clear q1 q2 q3 HPk HNk
                go_upto_region 11 with fail
                go_quiet (fail)
                have HMa := Lib.hid (HAd.out L sl A5 c5 (wr.drewN nq) (HL.out.drewN nq) HIn.out HLl.out)
                have HBn := Lib.hid (below_drewN HB.out nq)
                clear e2 e3 b1 b2 b3 b4
                go_wp2_with fail
                refine HMa.out.mono ?_
                rintro e w3 ⟨hb3, A6, c6, rfl, hs6⟩
                have HB3 := Lib.hid (HBn.out.trans (hb3.mono HBn.out.size))
                have HS6 := Lib.hid hs6
                clear hb3 hs6 HMa g2 g3
                go_wp2
                exact ⟨⟨k + 1, _, A6, c6, by go_num, by omega, rfl, HN.out, HS6.out, HB3.out⟩, by simp [intOf]; omega⟩
            · have b2 : (sl'.toList == sl.toList) = false := by rw [Bool.eq_false_iff]; intro z; exact q2 ((Lib.bytes_beq_iff _ _).1 z)
              have HN := Lib.hid (HNk.out (fun z => q2 z.2.1))
              clear q1 q2 HPk HNk
              go_upto_region 11 with fail
              go_quiet (fail)
              go_wp2
              exact ⟨⟨k + 1, L, A5, c5, by go_num, by omega, rfl, HN.out, HL.out, below_drewN HB.out _⟩, by simp [intOf]; omega⟩
        · have HN := Lib.hid (HS.out.next (by omega) (by omega))
          go_wp2
          exact ⟨⟨i + 1, L, A5, c5, by go_num, by omega, rfl, HN.out, HL.out, HB.out⟩, by simp [intOf]; omega⟩
    · have HE := Lib.hid (HS.out.all (by omega))
      rw [HE.out] at HL
      have HL2 := Lib.hid HL.out
      go_wp2
      go_ret2
      exact ⟨HB.out, _, rfl, by rw [HE.out]; exact HL2.out⟩
/-- The reference answers as the program. -/
theorem rseals_any (v : Value) (ds : List De) (w : World) (h : DeedsV w v ds) (hs : ShortDs ds) :
    Calls Tryz.prog 50 #[v] w (NamesP (if checkDF ds = 0 then sealsF ds else []) (checkDF ds) w) := by
  rcases checkDF_cases ds with hc | hc | hc
  · rw [if_neg (by omega), hc]
    exact rseals_bad _ (.inl rfl) v ds w h hs hc
  · rw [if_neg (by omega), hc]
    exact rseals_bad _ (.inr rfl) v ds w h hs hc
  · rw [if_pos hc, hc]
    exact rseals_good v ds w h hs hc
end

section
open Go Go.RowKit Go.Shelf
attribute [local go_sem] Oper.semAt_some

def getS (m : List (ByteArray × ByteArray)) (s : ByteArray) : Option ByteArray := (m.find? fun p => decide (s = p.1)).map (·.2)
def kvS (m : List (ByteArray × ByteArray)) : List Kv := m.map fun p => (p.1, .string p.2)
theorem getS_snoc (m : List (ByteArray × ByteArray)) (s t x : ByteArray) : getS (m ++ [(s, x)]) t = (getS m t).or (if t = s then some x else none) := by
  unfold getS
  rw [List.find?_append]
  cases hm : m.find? (fun p => decide (t = p.1)) with
  | some p => simp
  | none =>
    by_cases e : t = s
    · simp [e]
    · simp [e]
theorem getM_kvS (m : List (ByteArray × ByteArray)) (s : ByteArray) : getM (kvS m) s = (getS m s).map Value.string := by
  unfold getM kvS getS
  rw [List.find?_map, Option.map_map, Option.map_map]
  rfl
/-- The seals that have been found, and who used each one first. -/
def SealP (ds : List De) (k : Nat) (fl : List (ByteArray × ByteArray)) (L : List ByteArray) : Prop :=
  (∀ s x, getS fl s = some x → s ≠ ByteArray.empty ∧ ∃ (j : Nat) (d : De), j < k ∧ ds[j]? = some d ∧ d.sl = s ∧ d.sealer = x) ∧
  (∀ (j : Nat) (d : De), j < k → ds[j]? = some d → d.sl ≠ ByteArray.empty → getS fl d.sl ≠ none) ∧
  L.length ≤ k ∧ ∀ s, s ∈ L ↔ s ≠ ByteArray.empty ∧ ∃ (j m : Nat) (d e : De), j < k ∧ m < k ∧ ds[j]? = some d ∧ ds[m]? = some e ∧ d.sl = s ∧ e.sl = s ∧ e.sealer ≠ d.sealer
theorem SealP.start (ds : List De) : SealP ds 0 [] [] :=
  ⟨fun s x h => (by cases h), fun j d h => absurd h (Nat.not_lt_zero _), by simp, fun s => ⟨fun q => (by cases q), fun ⟨_, j, _, _, _, q, _⟩ => absurd q (Nat.not_lt_zero _)⟩⟩
theorem sp_old {ds : List De} {k : Nat} {fl : List (ByteArray × ByteArray)} (h : ∀ s x, getS fl s = some x → s ≠ ByteArray.empty ∧ ∃ (j : Nat) (d : De), j < k ∧ ds[j]? = some d ∧ d.sl = s ∧ d.sealer = x) :
    ∀ s x, getS fl s = some x → s ≠ ByteArray.empty ∧ ∃ (j : Nat) (d : De), j < k + 1 ∧ ds[j]? = some d ∧ d.sl = s ∧ d.sealer = x := by
  intro s x hx
  obtain ⟨h1, j, d, h2, h3⟩ := h s x hx
  exact ⟨h1, j, d, by omega, h3⟩
theorem SealP.skip {ds : List De} {k : Nat} {fl : List (ByteArray × ByteArray)} {L : List ByteArray} {d : De} (h : SealP ds k fl L) (hk : ds[k]? = some d) (he : d.sl = ByteArray.empty) : SealP ds (k + 1) fl L := by
  obtain ⟨h1, h2, h3, h4⟩ := h
  refine ⟨sp_old h1, fun j e hj hje hn => ?_, by omega, fun s => (h4 s).trans (and_congr_right fun hs => ⟨?_, ?_⟩)⟩
  · rcases Nat.lt_succ_iff_lt_or_eq.1 hj with z | z
    · exact h2 j e z hje hn
    · rw [z, hk] at hje
      cases hje
      exact absurd he hn
  · rintro ⟨j, m, x, y, q1, q2, q⟩
    exact ⟨j, m, x, y, by omega, by omega, q⟩
  · rintro ⟨j, m, x, y, q1, q2, q3, q4, q5, q6, q7⟩
    refine ⟨j, m, x, y, ?_, ?_, q3, q4, q5, q6, q7⟩
    · rcases Nat.lt_succ_iff_lt_or_eq.1 q1 with z | z
      · exact z
      · rw [z, hk] at q3
        cases q3
        exact absurd (q5.symm.trans he) hs
    · rcases Nat.lt_succ_iff_lt_or_eq.1 q2 with z | z
      · exact z
      · rw [z, hk] at q4
        cases q4
        exact absurd (q6.symm.trans he) hs
theorem SealP.new {ds : List De} {k : Nat} {fl : List (ByteArray × ByteArray)} {L : List ByteArray} {d : De} (h : SealP ds k fl L) (hk : ds[k]? = some d) (he : d.sl ≠ ByteArray.empty) (hg : getS fl d.sl = none) : SealP ds (k + 1) (fl ++ [(d.sl, d.sealer)]) L := by
  obtain ⟨h1, h2, h3, h4⟩ := h
  have hno : ∀ (j : Nat) (e : De), j < k → ds[j]? = some e → e.sl ≠ d.sl := fun j e hj hje q => h2 j e hj hje (by rw [q]; exact he) (by rw [q]; exact hg)
  refine ⟨fun s x hx => ?_, fun j e hj hje hn => ?_, by omega, fun s => (h4 s).trans (and_congr_right fun hs => ⟨?_, ?_⟩)⟩
  · rw [getS_snoc] at hx
    cases hq : getS fl s with
    | some y =>
      rw [hq] at hx
      exact sp_old h1 s x (hq.trans hx)
    | none =>
      rw [hq, Option.none_or] at hx
      split at hx
      · rename_i e
        cases hx
        rw [e]
        exact ⟨he, k, d, by omega, hk, rfl, rfl⟩
      · cases hx
  · rw [getS_snoc]
    rcases Nat.lt_succ_iff_lt_or_eq.1 hj with z | z
    · have := h2 j e z hje hn
      cases hq : getS fl e.sl with
      | some y => simp
      | none => exact absurd hq this
    · rw [z, hk] at hje
      cases hje
      rw [hg]
      simp
  · rintro ⟨j, m, x, y, q1, q2, q⟩
    exact ⟨j, m, x, y, by omega, by omega, q⟩
  · rintro ⟨j, m, x, y, q1, q2, q3, q4, q5, q6, q7⟩
    rcases Nat.lt_succ_iff_lt_or_eq.1 q1 with z1 | z1 <;> rcases Nat.lt_succ_iff_lt_or_eq.1 q2 with z2 | z2
    · exact ⟨j, m, x, y, z1, z2, q3, q4, q5, q6, q7⟩
    · rw [z2, hk] at q4
      cases q4
      exact absurd (q5.trans q6.symm) (hno j x z1 q3)
    · rw [z1, hk] at q3
      cases q3
      exact absurd (q6.trans q5.symm) (hno m y z2 q4)
    · rw [z1, hk] at q3
      rw [z2, hk] at q4
      cases q3
      cases q4
      exact absurd rfl q7
theorem SealP.same {ds : List De} {k : Nat} {fl : List (ByteArray × ByteArray)} {L : List ByteArray} {d : De} (h : SealP ds k fl L) (hk : ds[k]? = some d) (hg : getS fl d.sl = some d.sealer) : SealP ds (k + 1) fl L := by
  obtain ⟨h1, h2, h3, h4⟩ := h
  obtain ⟨_, jf, f, f1, f2, f3, f4⟩ := h1 _ _ hg
  refine ⟨sp_old h1, fun j e hj hje hn => ?_, by omega, fun s => (h4 s).trans (and_congr_right fun hs => ⟨?_, ?_⟩)⟩
  · rcases Nat.lt_succ_iff_lt_or_eq.1 hj with z | z
    · exact h2 j e z hje hn
    · rw [z, hk] at hje
      cases hje
      rw [hg]
      simp
  · rintro ⟨j, m, x, y, q1, q2, q⟩
    exact ⟨j, m, x, y, by omega, by omega, q⟩
  · rintro ⟨j, m, x, y, q1, q2, q3, q4, q5, q6, q7⟩
    rcases Nat.lt_succ_iff_lt_or_eq.1 q1 with z1 | z1 <;> rcases Nat.lt_succ_iff_lt_or_eq.1 q2 with z2 | z2
    · exact ⟨j, m, x, y, z1, z2, q3, q4, q5, q6, q7⟩
    · rw [z2, hk] at q4
      cases q4
      exact ⟨j, jf, x, f, z1, f1, q3, f2, q5, f3.trans q6, by rw [f4]; exact q7⟩
    · rw [z1, hk] at q3
      cases q3
      exact ⟨jf, m, f, y, f1, z2, f2, q4, f3.trans q5, q6, by rw [f4]; exact q7⟩
    · rw [z1, hk] at q3
      rw [z2, hk] at q4
      cases q3
      cases q4
      exact absurd rfl q7
theorem SealP.push {ds : List De} {k : Nat} {fl : List (ByteArray × ByteArray)} {L : List ByteArray} {d : De} {x : ByteArray} (h : SealP ds k fl L) (hk : ds[k]? = some d) (he : d.sl ≠ ByteArray.empty) (hg : getS fl d.sl = some x) (hx : x ≠ d.sealer) : SealP ds (k + 1) fl (L ++ [d.sl]) := by
  obtain ⟨h1, h2, h3, h4⟩ := h
  obtain ⟨_, jf, f, f1, f2, f3, f4⟩ := h1 _ _ hg
  refine ⟨sp_old h1, fun j e hj hje hn => ?_, by rw [List.length_append, List.length_singleton]; omega, fun s => ?_⟩
  · rcases Nat.lt_succ_iff_lt_or_eq.1 hj with z | z
    · exact h2 j e z hje hn
    · rw [z, hk] at hje
      cases hje
      rw [hg]
      simp
  · rw [List.mem_append, List.mem_singleton, h4 s]
    constructor
    · rintro (⟨hs, j, m, a, b, q1, q2, q⟩ | q)
      · exact ⟨hs, j, m, a, b, by omega, by omega, q⟩
      · rw [q]
        exact ⟨he, k, jf, d, f, by omega, by omega, hk, f2, rfl, f3, by rw [f4]; exact hx⟩
    · rintro ⟨hs, j, m, a, b, q1, q2, q3, q4, q5, q6, q7⟩
      rcases Nat.lt_succ_iff_lt_or_eq.1 q1 with z1 | z1 <;> rcases Nat.lt_succ_iff_lt_or_eq.1 q2 with z2 | z2
      · exact .inl ⟨hs, j, m, a, b, z1, z2, q3, q4, q5, q6, q7⟩
      · rw [z2, hk] at q4
        cases q4
        exact .inr q6.symm
      · rw [z1, hk] at q3
        cases q3
        exact .inr q5.symm
      · rw [z1, hk] at q3
        cases q3
        exact .inr q5.symm
theorem SealP.all {ds : List De} {k : Nat} {fl : List (ByteArray × ByteArray)} {L : List ByteArray} (h : SealP ds k fl L) (hk : ds.length ≤ k) : setL L = sealsF ds := by
  obtain ⟨h1, h2, h3, h4⟩ := h
  refine incS_ext (setL_inc _) (sealsF_inc ds) fun s => ?_
  rw [mem_setL, h4 s, mem_sealsF, sealB_iff]
  refine and_congr_right fun _ => ⟨?_, ?_⟩
  · rintro ⟨j, m, d, e, _, _, q3, q4, q5, q6, q7⟩
    exact ⟨d, List.mem_of_getElem? q3, e, List.mem_of_getElem? q4, q5, q6, q7⟩
  · rintro ⟨d, hd, e, he, q1, q2, q3⟩
    obtain ⟨j, hj⟩ := List.mem_iff_getElem?.1 hd
    obtain ⟨m, hm⟩ := List.mem_iff_getElem?.1 he
    have hjl := (List.getElem?_eq_some_iff.1 hj).1
    have hml := (List.getElem?_eq_some_iff.1 hm).1
    exact ⟨j, m, d, e, by omega, by omega, hj, hm, q1, q2, q3⟩
theorem kvS_snoc (m : List (ByteArray × ByteArray)) (s x : ByteArray) : kvS (m ++ [(s, x)]) = kvS m ++ [(s, .string x)] := by
  unfold kvS
  rw [List.map_append]
  rfl
set_option maxRecDepth 100000 in
set_option maxHeartbeats 8000000 in
theorem seals_bad (r : Int) (hr : r = 3 ∨ r = 102) (v : Value) (ds : List De) (w : World) (h : DeedsV w v ds) (hs : ShortDs ds) (hc : checkDF ds = r) :
    Calls Tryz.prog 49 #[v] w (NamesP [] r w) := by
  have HK := Lib.hid (checkDeeds_any v ds w h hs)
  rw [hc] at HK
  obtain ⟨A, c, rfl, _⟩ := h.shape
  have hmm := @run_makeMap Tryz.prog
  clear h hs hc
  rcases hr with rfl | rfl
  all_goals
    go_enter Tryz.func49, Tryz.ntmps49
    go_wp2_with fail
    refine HK.out.mono ?_
    rintro e w1 ⟨rfl, hb1⟩
    have HB := Lib.hid hb1
    clear hb1
    go_wp2
    go_ret2
    exact ⟨HB.out, _, rfl, Sl.nil0 _ _⟩
set_option maxRecDepth 100000 in
set_option maxHeartbeats 8000000 in
theorem seals_good (v : Value) (ds : List De) (w : World) (h : DeedsV w v ds) (hs : ShortDs ds) (hc : checkDF ds = 0) :
    Calls Tryz.prog 49 #[v] w (NamesP (sealsF ds) 0 w) := by
  have HK := Lib.hid (checkDeeds_any v ds w h hs)
  rw [hc] at HK
  have h64 := (checkDF_few hc).1
  obtain ⟨A, c, rfl, h⟩ := h.shape
  obtain ⟨_, a1, a2⟩ := h.many
  have HD := Lib.hid (fun q => h.deed q)
  have HS0 := Lib.hid (SealP.start ds)
  have hmm := @run_makeMap Tryz.prog
  clear h hs hc
  go_enter Tryz.func49, Tryz.ntmps49
  go_wp2_with fail
  refine HK.out.mono ?_
  rintro e w1 ⟨rfl, hb1⟩
  have HB1 := Lib.hid hb1
  clear hb1 HK
  go_upto_region 5 with fail
  have hb2 := below_alloc' w1 (.map #[] 0)
  have HB2 := Lib.hid (HB1.out.trans (hb2.mono HB1.out.size))
  have HM2 := Lib.hid (show MapW (w1.alloc (.map #[] 0)) w1.heap.size (kvS []) from MapW.new w1)
  obtain ⟨bm, hbm⟩ : ∃ bm, w1.heap.size = bm := ⟨_, rfl⟩
  have HBm := Lib.hid (show w.heap.size ≤ bm by rw [← hbm]; exact HB1.out.size)
  have HSz := Lib.hid (show bm + 1 ≤ (w1.alloc (.map #[] 0)).heap.size by simp [hbm])
  rw [hbm] at HM2 ⊢
  generalize w1.alloc (.map #[] 0) = w2 at *
  clear hb2 hmm HB1 hbm
  go_wp2
  go_loopw [6, 19] (fun v6 ti wr => ∃ (k : Nat) (L : List ByteArray) (fl : List (ByteArray × ByteArray)), ti = .int .i64 k ∧ k ≤ ds.length ∧ Hid (SealP ds k fl L) ∧ Hid (MapW wr bm (kvS fl)) ∧ Hid (wr.ownsRow (bm + 1) 9 1 v6 L.length (namesV L)) ∧ Hid (bm + 1 ≤ wr.heap.size) ∧ Hid (Below w.heap.size w wr)) (fun _ ti _ => ds.length - (intOf ti).toNat)
  case atStart => exact ⟨0, [], [], rfl, by omega, HS0.out, HM2.out, World.ownsRow_nil _ _ _ _, HSz.out, HB2.out⟩
  case round =>
    clear HS0 HM2 HSz HB2
    obtain ⟨k, L, fl, rfl, hk, HS, HM, HO, HSz, HB⟩ := hrel
    have HLn := Lib.hid (show L.length ≤ 64 by have := HS.out.2.2.1; omega)
    by_cases hlt : k < ds.length
    · have hki : (k : Int) < (ds.length : Int) := by omega
      obtain ⟨b0, o0, rfl, hb, hce⟩ := HD.out (by omega)
      have hget : ds[k]? = some ds[k] := List.getElem?_eq_getElem hlt
      obtain ⟨g0, g1, g2, g3, Aw, nw, cw, g4, hsw⟩ := hce k _ hget
      replace g0 := below_cell HB.out g0
      replace g1 := below_cell HB.out g1
      replace g2 := below_cell HB.out g2
      replace g3 := below_cell HB.out g3
      replace g4 := below_cell HB.out g4
      have HSk := Lib.hid (fun he => HS.out.skip hget he)
      have HSn := Lib.hid (fun he hg => HS.out.new hget he hg)
      have HSs := Lib.hid (fun hg => HS.out.same hget hg)
      have HSp := Lib.hid (fun x he hg hx => HS.out.push (x := x) hget he hg hx)
      clear hce hget hsw HS
      generalize ds[k] = d at *
      obtain ⟨nm, yr, se, sl, wit⟩ := d
      simp only at g0 g1 g2 g3 g4 HSk HSn HSs HSp
      have HMa := Lib.hid (HM.out.alloc (.cells #[.string nm, .int .i64 yr, .string se, .string sl, .slice Aw nw cw] 63))
      have HOa := Lib.hid (HO.out.alloc (.cells #[.string nm, .int .i64 yr, .string se, .string sl, .slice Aw nw cw] 63))
      have HBa := Lib.hid (HB.out.alloc HB.out.size (.cells #[.string nm, .int .i64 yr, .string se, .string sl, .slice Aw nw cw] 63))
      have HSza := Lib.hid (Nat.le_trans HSz.out (below_alloc' wr (.cells #[.string nm, .int .i64 yr, .string se, .string sl, .slice Aw nw cw] 63)).size)
      have HY := Lib.hid (Cel.new wr 63 #[.string nm, .int .i64 yr, .string se, .string sl, .slice Aw nw cw])
      have HNe := Lib.hid (fun g (q : u6.ownBlock = some g) => own_lt HO.out q)
      go_upto_region 9 with fail
      clear g0 g1 g2 g3 g4
      obtain ⟨B, hB⟩ : ∃ B, wr.heap.size = B := ⟨_, rfl⟩
      rw [hB] at HY HNe
      generalize wr.alloc (.cells #[.string nm, .int .i64 yr, .string se, .string sl, .slice Aw nw cw] 63) = wa at *
      rw [hB]
      clear hB HM HO HB HSz
      have c2 := HY.out.cell 2 (.string se) rfl
      have c3 := HY.out.cell 3 (.string sl) rfl
      by_cases q1 : sl = ByteArray.empty
      · have b1 : sl.toList.isEmpty = true := by rw [q1]; kernel_rfl
        have HN := Lib.hid (HSk.out q1)
        clear q1 HSk HSn HSs HSp
        go_wp2
        exact ⟨⟨k + 1, L, fl, by go_num, by omega, HN.out, HMa.out, HOa.out, HSza.out, HBa.out⟩, by simp [intOf]; omega⟩
      · have b1 : sl.toList.isEmpty = false := by
          rw [Bool.eq_false_iff]
          intro z
          refine q1 (data_inj ?_)
          rw [ByteArray.toList_eq] at z
          exact List.isEmpty_iff.1 z
        have hlk := HMa.out.s.lookup (P := Tryz.prog) (t := 123) Tryz.underlying123 Tryz.underlying9 (Tryz.zeroValue9 _) sl true
        have HGm := Lib.hid (getM_kvS fl sl)
        rw [HGm.out] at hlk
        cases hg : getS fl sl with
        | none =>
          rw [hg] at hlk
          have hnone : getM (kvS fl) sl = none := by rw [HGm.out, hg]; rfl
          have HN := Lib.hid (HSn.out q1 hg)
          have hup := HMa.out.s.update (P := Tryz.prog) (t := 123) Tryz.underlying123 Tryz.underlying9 sl (.string se) hnone
          have HP := Lib.hid (HMa.out.put sl (.string se))
          rw [← kvS_snoc] at HP
          have HG := Lib.hid (HMa.out.s.put_grown sl (.string se))
          obtain ⟨w9, hw9⟩ : ∃ w9, mapPut wa bm sl (.string se) = w9 := ⟨_, rfl⟩
          rw [hw9] at hup HP HG
          have HB9 := Lib.hid (HBa.out.grown HG.out HBa.out.size (fun j e => by cases e; exact HBm.out))
          have HO9 := Lib.hid (own_keep HOa.out HG.out (fun g h1 h2 => by have := own_ge HOa.out h1; cases h2; omega))
          have HSz9 := Lib.hid (Nat.le_trans HSza.out HG.out.size)
          clear hw9 hg q1 HGm hnone HSk HSn HSs HSp HG
          simp only [Option.map_none] at hlk
          go_wp2
          exact ⟨⟨k + 1, L, _, by go_num, by omega, HN.out, HP.out, HO9.out, HSz9.out, HB9.out⟩, by simp [intOf]; omega⟩
        | some x =>
          rw [hg] at hlk
          simp only [Option.map_some] at hlk
          by_cases q3 : x = se
          · have b3 : (x.toList == se.toList) = true := by rw [q3]; simp
            have b4 : (x.toList != se.toList) = false := by rw [q3]; simp
            have HN := Lib.hid (HSs.out (by rw [hg, q3]))
            clear hg q1 q3 HGm HSk HSn HSs HSp
            go_wp2
            exact ⟨⟨k + 1, L, fl, by go_num, by omega, HN.out, HMa.out, HOa.out, HSza.out, HBa.out⟩, by simp [intOf]; omega⟩
          · have b3 : (x.toList == se.toList) = false := by rw [Bool.eq_false_iff]; intro z; exact q3 ((Lib.bytes_beq_iff _ _).1 z)
            have b4 : (x.toList != se.toList) = true := by unfold bne; rw [b3]; rfl
            have HN := Lib.hid (HSp.out x q1 hg q3)
            clear hg q1 q3 HGm HSk HSn HSs HSp
            have HO8 := Lib.hid (HOa.out.alloc (.cells #[.string sl] 9))
            have HB8 := Lib.hid (HBa.out.alloc HBa.out.size (.cells #[.string sl] 9))
            have HM8 := Lib.hid (HMa.out.alloc (.cells #[.string sl] 9))
            have HSz8 := Lib.hid (Nat.le_trans HSza.out (below_alloc' wa (.cells #[.string sl] 9)).size)
            have HS8 := Lib.hid (Sl.new (s := 1) wa 9 1 1 #[.string sl] rfl (Nat.le_refl _) (by decide))
            go_wp2_with (at_builtin; refine appStr _ _ rfl rfl rfl rfl HO8.out HS8.out (by simp [Value.oneCell']) (N := L.length + 1) (by simp) (by have := HLn.out; omega) HSz8.out ?_; intro A9 c9 w9 hap)
            have HB9 := Lib.hid (below_of_own hap.grown HO8.out HB8.out (by have := HBm.out; omega))
            have HO9 := Lib.hid (show w9.ownsRow (bm + 1) 9 1 (.slice A9 (L.length + 1) c9) (L ++ [sl]).length (namesV (L ++ [sl])) by rw [List.length_append, namesV_append]; exact hap.own)
            have HM9 := Lib.hid (HM8.out.kept hap.grown (fun e => by have := own_ge HO8.out e.symm; omega))
            have HSz9 := Lib.hid (Nat.le_trans HSz8.out hap.grown.size)
            clear hap c2 c3 hlk
            go_wp2
            exact ⟨⟨k + 1, _, fl, by go_num, by omega, HN.out, HM9.out, HO9.out, HSz9.out, HB9.out⟩, by simp [intOf]; omega⟩
    · have HE := Lib.hid (HS.out.all (by omega))
      obtain ⟨A5, c5, e5, _⟩ := own_shape HO.out
      subst e5
      go_wp2_with fail
      refine (sort_own _ _ L wr HO.out (by have := HLn.out; omega)).mono ?_
      rintro e w3 ⟨rfl, ho1, hg1⟩
      have HO1 := Lib.hid ho1
      have HB1 := Lib.hid (below_of_own hg1 HO.out HB.out (by have := HBm.out; omega))
      clear ho1 hg1
      go_wp2_with fail
      refine (compact_own _ _ L w3 HO1.out (by have := HLn.out; omega)).mono ?_
      rintro e w4 ⟨v2, rfl, ho2, hg2⟩
      rw [HE.out] at ho2
      have HO2 := Lib.hid (Sl.of_own ho2)
      have HB2 := Lib.hid (below_of_own hg2 HO1.out HB1.out (by have := HBm.out; omega))
      clear ho2 hg2
      go_wp2
      go_ret2
      exact ⟨HB2.out, _, rfl, HO2.out⟩
theorem seals_any (v : Value) (ds : List De) (w : World) (h : DeedsV w v ds) (hs : ShortDs ds) :
    Calls Tryz.prog 49 #[v] w (NamesP (if checkDF ds = 0 then sealsF ds else []) (checkDF ds) w) := by
  rcases checkDF_cases ds with hc | hc | hc
  · rw [if_neg (by omega), hc]
    exact seals_bad _ (.inl rfl) v ds w h hs hc
  · rw [if_neg (by omega), hc]
    exact seals_bad _ (.inr rfl) v ds w h hs hc
  · rw [if_pos hc, hc]
    exact seals_good v ds w h hs hc
end
end Go.Proofs.YtdmcopjbckelmaaGreatDoor
