/- Walks of the package people: Ancestors, with the order of what it answers. Conditions: those stated. -/
import Derived.Test.YtdmcopjbckelmaaGreatDoorZA2
import Derived.Test.YtdmcopjbckelmaaGreatDoorZH1
namespace Go.Proofs.YtdmcopjbckelmaaGreatDoor
open Go Go.RowKit Go.Shelf
attribute [local go_sem] Oper.semAt_some

theorem sortL_incA {l : List ByteArray} (h : l.Nodup) : IncS (sortL l) := by
  have e : bytesL (sortL l) = sortB l := bytes_of _
  unfold IncS IncB
  rw [e]
  have hn : (sortB l).Nodup := by
    unfold sortB
    rw [(List.mergeSort_perm _ _).nodup_iff]
    unfold bytesL
    rw [List.nodup_iff_pairwise_ne, List.pairwise_map]
    exact (List.nodup_iff_pairwise_ne.1 h).imp (fun hab e => hab (data_inj e))
  refine List.Pairwise.imp ?_ ((sortB_sorted l).and (List.nodup_iff_pairwise_ne.1 hn))
  rintro a b ⟨h1, h2⟩
  rcases List.le_iff_lt_or_eq.1 h1 with q | q
  · exact q
  · exact absurd q h2
/-- What Ancestors answers, and in which order. -/
def AncQ (fs : List Fa) (a : ByteArray) (w : World) (e : Ending) (w' : World) : Prop := Below w.heap.size w w' ∧ ∃ v l, e = .returned (.tuple #[v, .int .i64 0]) ∧ Sl w' 1 v (namesV l) ∧ IncS l ∧ ∀ s, s ∈ l ↔ Anc fs a s
set_option maxRecDepth 100000 in
set_option maxHeartbeats 4000000 in
theorem ancestors_inc (A : Option Addr) (n c : Nat) (F : Option Addr) (m d : Nat) (ps : List ByteArray) (fs : List Fa) (a : ByteArray) (w : World) (h : NetC w A n c F m d ps fs) (hs : Short ps) (hc : namedF ps fs [a] = 0) (hf : AllAbout ps fs) (hp : ps.length ≤ 24) (hfew : fs.length ≤ 48) :
    Calls Tryz.prog 33 #[.agg #[.slice A n c, .slice F m d], .string a] w (AncQ fs a w) := by
  have hb0 := (below_alloc' w (.cells #[.slice A n c, .slice F m d] 25)).alloc (by simp) (.cells #[.string a] 9)
  have y0 := (Cel.new w 25 #[.slice A n c, .slice F m d]).alloc (.cells #[.string a] 9)
  have hS1 := Sl.new (s := 1) (w.alloc (.cells #[.slice A n c, .slice F m d] 25)) 9 1 1 #[.string a] rfl (Nat.le_refl _) (by decide)
  rw [World.size_alloc] at hS1
  have HK := Lib.hid (checkNames_any A n c F m d ps fs (.slice (some ⟨w.heap.size + 1, 0, none⟩) 1 1) [a] _ (h.below hb0) hs hS1)
  rw [hc] at HK
  have HN := Lib.hid h
  have HA := Lib.hid (fun v w' h1 h3 => above_any A n c F m d ps fs v (parentsF fs a) w' h1 hf hp hfew h3 (fun s q => parentsF_mem hf q))
  have HP := Lib.hid (fun w' h1 => parents_any A n c F m d ps fs a w' h1 hfew)
  have HG := Lib.hid (fun i => (abI_good hf (frm := parentsF fs a) (fun s q => parentsF_mem hf q) i))
  have HPl := Lib.hid hp
  clear h hs hc hS1 hf
  go_enter Tryz.func33, Tryz.ntmps33
  go_wp2_with fail
  refine HK.out.mono ?_
  rintro e w1 ⟨rfl, hb1⟩
  have HB := Lib.hid (hb0.trans (hb1.mono hb0.size))
  have HY := Lib.hid (y0.below y0.lt hb1)
  have z0 := HY.out.cell 0 _ rfl
  have z1 := HY.out.cell 1 _ rfl
  have HR0 := Lib.hid (Below.refl w1.heap.size w1)
  have HLd : Hid (∀ w', Below w1.heap.size w1 w' → w'.cell? ⟨w.heap.size, 0, none⟩ = some (.slice A n c) ∧ w'.cell? ⟨w.heap.size, 1, none⟩ = some (.slice F m d)) := fun w' hb => ⟨below_cell hb z0, below_cell hb z1⟩
  clear hb0 hb1 y0 HK HY
  go_upto_region 5 with fail
  go_region_held3 (fun w' => w'.cell? ⟨w.heap.size, 0, none⟩ = some (.slice A n c) ∧ w'.cell? ⟨w.heap.size, 1, none⟩ = some (.slice F m d)) (first | exact HLd.out _ hB6 | exact HLd.out _ hB2 | exact HLd.out _ hB3 | exact HLd.out _ (by (repeat (first | exact hB2 | exact hB3 | exact HR0.out | refine below_drew ?_)); done) | go_keep)
    (first
    | (go_at_call 81; refine (HP.out _ (HN.out.below (by first | exact HB.out | exact below_drew HB.out))).mono ?_; rintro e w2 ⟨v2, rfl, ho2, hb2⟩; have hB2 : Below w1.heap.size w1 w2 := undrew_a (show Below w1.drew.heap.size w1.drew w2 from hb2); have HO2 := Lib.hid ho2)
    | (go_at_call 84; refine (HA.out _ _ (HN.out.below (HB.out.trans (hB2.mono HB.out.size))) (Sl.of_own HO2.out)).mono ?_; rintro e w3 ⟨i, hi, hsi, rfl, hm, hb3⟩; have hB3 : Below w1.heap.size w1 w3 := hB2.trans (hb3.mono hB2.size); have HM := Lib.hid hm; obtain ⟨bA, hbA⟩ : ∃ bA, w2.heap.size + 1 = bA := ⟨_, rfl⟩; rw [hbA] at HM hm ⊢; obtain ⟨w6, hrun, hr6, hg6, hs6⟩ := hm.range (P := Tryz.prog) (t := 104) Tryz.underlying104; have hB6 : Below w1.heap.size w1 w6 := hB3.grown hg6 hB3.size (fun j e => by cases e); clear hm hbA))
  have HB6 := Lib.hid (HB.out.trans (hB6.mono HB.out.size))
  have HR6 := Lib.hid hr6
  have HSi := Lib.hid hsi
  have HGi := Lib.hid (HG.out i)
  have HZ := Lib.hid (HB.out.trans (hB3.mono HB.out.size)).size
  have HbA := Lib.hid (HM.out.lt)
  have HS6 := Lib.hid (show w3.heap.size + 1 ≤ w6.heap.size by omega)
  clear hr6 hg6 hs6 hsi hi hb2 hb3 hB2 hB3 hB6 ho2 hrun z0 z1 HLd HM HO2 HR0
  generalize hmAe : (abI fs (parentsF fs a) i).1 = mA at *
  have HEA := Lib.hid hmAe
  clear hmAe
  generalize w3.heap.size = br at *
  go_wp2
  go_loopw [7] (fun u7 wr => ∃ (done rest : Sm), Hid ((done ++ rest).Perm mA) ∧ Hid (RangeW wr bA br (kvN mA) (kvN rest)) ∧ Hid (wr.ownsRow (br + 1) 9 1 u7 done.length (namesV (done.map (·.1)))) ∧ Hid (br + 1 ≤ wr.heap.size) ∧ Hid (Below w.heap.size w wr)) (fun _ wr => wr.rangeLeft bA br)
  case atStart => exact ⟨[], mA, List.Perm.refl _, HR6.out, World.ownsRow_nil _ _ _ _, HS6.out, HB6.out⟩
  case round =>
    clear HB6 HR6
    obtain ⟨done, rest, HPm, HR, HO, HSz, HBr⟩ := hrel
    have HLn := Lib.hid (show done.length ≤ 24 by
      have h1 := HPm.out.length_eq
      rw [List.length_append] at h1
      have h2 := nodup_le (l := mA.map (·.1)) (ps := ps) (by rw [← HEA.out]; exact HGi.out.once) (fun s hs => by rw [← HEA.out] at hs; obtain ⟨p, hp, rfl⟩ := List.mem_map.1 hs; exact HGi.out.who p hp)
      have h3 := HPl.out
      rw [List.length_map] at h2
      omega)
    obtain ⟨A5, c5, e5, _⟩ := own_shape HO.out
    subst e5
    rcases HR.out.next (P := Tryz.prog) 0 with ⟨h0, hn⟩ | ⟨pk, rest', w', hperm, hn, hr', hg', hsz, hen⟩
    · have he : rest = [] := by
        cases rest with
        | nil => rfl
        | cons z l => simp [kvN] at h0
      have HPd := Lib.hid (show done.Perm mA by have := HPm.out; rw [he, List.append_nil] at this; exact this)
      clear h0 he
      go_wp2_with fail
      have hso := sort_own (br + 1) (.slice A5 done.length c5) (done.map (·.1)) wr (by rw [List.length_map]; exact HO.out) (by have := HLn.out; rw [List.length_map]; omega)
      refine hso.mono ?_
      clear hso
      rintro e w4 ⟨rfl, ho4, hg4⟩
      have HO4 := Lib.hid ho4
      have HB4 := Lib.hid (below_of_own hg4 HO.out HBr.out (by have := HZ.out; omega))
      clear ho4 hg4
      go_wp2
      go_ret2
      refine ⟨HB4.out, _, sortL (done.map (·.1)), rfl, Sl.of_own HO4.out, sortL_incA ((HPd.out.map (·.1)).nodup_iff.2 (by rw [← HEA.out]; exact HGi.out.once)), fun s => ?_⟩
      rw [mem_sortL, (HPd.out.map (·.1)).mem_iff, ← HEA.out]
      exact abI_has HSi.out s
    · obtain ⟨q, rest2, rfl, rfl, hp2⟩ := kvN_perm hperm
      have HPd := Lib.hid (show ((done ++ [q]) ++ rest2).Perm mA by
        refine List.Perm.trans ?_ HPm.out
        rw [List.append_assoc]
        exact (hp2.symm.append_left done))
      have HR2 := Lib.hid hr'
      have HLen := Lib.hid (show (kvN rest).length = (kvN rest2).length + 1 by rw [hperm.length_eq]; rfl)
      clear hperm hr' hp2
      obtain ⟨s, x⟩ := q
      simp only at hn hen HPd
      have HO1 := Lib.hid (own_keep HO.out hg' (fun g h1 h2 => by have := own_ge HO.out h1; cases h2; omega))
      have HB1 := Lib.hid (HBr.out.grown hg' HBr.out.size (fun j e => by cases e; exact HZ.out))
      have HSz1 : Hid (br + 1 ≤ w'.heap.size) := by rw [hsz]; exact HSz.out
      clear hg' hsz
      have HSa := Lib.hid (Sl.new (s := 1) w' 9 1 1 #[.string s] rfl (Nat.le_refl _) (by decide))
      have HOa := Lib.hid (HO1.out.alloc (.cells #[.string s] 9))
      have HBa := Lib.hid (HB1.out.alloc HB1.out.size (.cells #[.string s] 9))
      have HSza := Lib.hid (show br + 1 ≤ (w'.alloc (.cells #[.string s] 9)).heap.size from Nat.le_trans HSz1.out (below_alloc' w' _).size)
      go_wp2_with (at_builtin; refine appStr _ _ rfl rfl rfl rfl HOa.out HSa.out (by simp [Value.oneCell']) (N := done.length + 1) (by simp) (by have := HLn.out; omega) HSza.out ?_; intro A9 c9 w9 hap)
      have HB9 := Lib.hid (below_of_own hap.grown HOa.out HBa.out (by have := HZ.out; omega))
      have HO9 := Lib.hid hap.own
      have HSz9 := Lib.hid (Nat.le_trans HSza.out hap.grown.size)
      have HR9 := Lib.hid ((HR2.out.kept (World.grownBy_alloc w' (.cells #[.string s] 9) none) (by simp) (by simp)).kept hap.grown (fun e => by have h1 := own_ge HOa.out e.symm; have := HbA.out; omega) (fun e => by have h1 := own_ge HOa.out e.symm; omega))
      clear hap
      go_wp2
      go_roundw
      case rel => exact ⟨done ++ [(s, x)], rest2, HPd.out, HR9.out, by rw [List.map_append, namesV_append, List.length_append]; exact HO9.out, HSz9.out, HB9.out⟩
      case measure => rw [HR9.out.left_eq, HR.out.left_eq, HLen.out]; omega
end Go.Proofs.YtdmcopjbckelmaaGreatDoor
