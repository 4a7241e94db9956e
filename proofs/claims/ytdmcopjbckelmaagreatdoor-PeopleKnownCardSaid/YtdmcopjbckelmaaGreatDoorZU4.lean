/- Walks of the reference: added, people. Conditions: those stated. -/
import Derived.Test.YtdmcopjbckelmaaGreatDoorZU1
import Derived.Test.YtdmcopjbckelmaaGreatDoorZI8
namespace Go.Proofs.YtdmcopjbckelmaaGreatDoor
open Go Go.RowKit Go.Shelf
attribute [local go_sem] Oper.semAt_some

theorem less_data (s r : ByteArray) : Op.bytesLess s.toList r.toList = decide (s.data.toList < r.data.toList) := by
  rw [lessB, ByteArray.toList_eq, ByteArray.toList_eq]
set_option maxRecDepth 100000 in
set_option maxHeartbeats 4000000 in
theorem radded_any (v : Value) (l : List ByteArray) (s : ByteArray) (w : World) (h : Sl w 1 v (namesV l)) (hi : IncS l) (hl : l.length ≤ 1048000) :
    Calls Tryz.prog 95 #[v, .string s] w fun e w' => Below w.heap.size w w' ∧ ∃ A c, e = .returned (.slice A (insS s l).length c) ∧ Sl w' 1 (.slice A (insS s l).length c) (namesV (insS s l)) := by
  have HS := Lib.hid h
  obtain ⟨A, c, rfl, hcc, hccm, hcl⟩ := names_at2 h
  have HCl := Lib.hid hcl
  obtain ⟨ia, hia⟩ : ∃ i, atF l s = i := ⟨_, rfl⟩
  have HAt := Lib.hid (rAt_in w h hia)
  have hneg : ia < 0 ↔ ¬ s ∈ l := by rw [← hia]; exact atF_neg
  clear hcl h hia
  by_cases hm : s ∈ l
  · have q0 : 0 ≤ ia := Classical.byContradiction fun z => hneg.1 (by omega) hm
    have HE := Lib.hid (ins_has hi hm)
    rw [HE.out]
    clear hneg hm hi HE
    go_enter Tryz.func95, Tryz.ntmps95
    go_wp2_with fail
    refine HAt.out.mono ?_
    rintro e w1 ⟨rfl, rfl⟩
    go_wp2
    go_ret
    exact ⟨Below.refl _ _, A, c, rfl, HS.out⟩
  · have q0 : ¬ 0 ≤ ia := by have := hneg.2 hm; omega
    have HM := Lib.hid hm
    have HSt := Lib.hid (AddS.start l s)
    have HLn := Lib.hid hl
    clear hneg hm hi hl
    go_enter Tryz.func95, Tryz.ntmps95
    go_wp2_with fail
    refine HAt.out.mono ?_
    rintro e w1 ⟨rfl, rfl⟩
    clear HAt HS
    go_wp2
    clear q0
    go_loopw [5, 6, 7] (fun v5 t6 ti wr => ∃ (k : Nat) (dn : Bool) (out : List ByteArray), ti = .int .i64 k ∧ t6 = .bool dn ∧ k ≤ l.length ∧ Hid (AddS l s k dn out) ∧ Hid (wr.ownsRow w1.heap.size 9 1 v5 out.length (namesV out)) ∧ Hid (Below w1.heap.size w1 wr)) (fun _ _ ti _ => l.length - (intOf ti).toNat)
    case atStart => exact ⟨0, false, [], rfl, rfl, by omega, HSt.out, World.ownsRow_nil _ _ _ _, Below.refl _ _⟩
    case round =>
      clear HSt
      obtain ⟨k, dn, out, rfl, rfl, hk, HA, HO, HB⟩ := hrel
      have HOl := Lib.hid (show out.length ≤ l.length + 1 by have := HA.out.1; omega)
      by_cases hlt : k < l.length
      · have hki : (k : Int) < (l.length : Int) := by omega
        have hk0 : (0 : Int) ≤ (k : Int) := by omega
        obtain ⟨b0, o0, rfl, _, hce⟩ := HCl.out (by omega)
        have hget : l[k]? = some l[k] := List.getElem?_eq_getElem hlt
        have HCe := Lib.hid (hce k _ hget)
        have c1 := below_cell HB.out HCe.out
        clear hce
        cases dn with
        | true =>
          have HN := Lib.hid (HA.out.go hget)
          clear hget HA
          generalize l[k] = r at *
          have HOa := Lib.hid (HO.out.alloc (.cells #[.string r] 9))
          have HBa := Lib.hid (HB.out.alloc HB.out.size (.cells #[.string r] 9))
          have HSb := Lib.hid (Sl.new (s := 1) wr 9 1 1 #[.string r] rfl (Nat.le_refl _) (by decide))
          go_wp2_with (at_builtin; refine appStr _ _ rfl rfl rfl rfl HOa.out HSb.out (by simp [Value.oneCell']) (N := out.length + 1) (by simp) (by have := HOl.out; have := HLn.out; first | omega | (simp only [List.length_append, List.length_cons, List.length_nil]; omega)) HBa.out.size ?_; intro Aw2 cw2 w2 hap)
          have HBw2 := Lib.hid (below_of_own hap.grown HOa.out HBa.out (Nat.le_refl _))
          have HOw2 := Lib.hid (show w2.ownsRow w1.heap.size 9 1 (.slice Aw2 (out.length + 1) cw2) (out ++ [r]).length (namesV (out ++ [r])) by have e : (out ++ [r]).length = out.length + 1 := (by simp); rw [e, namesV_append]; exact hap.own)
          clear hap HOa HBa HSb
          clear c1
          go_wp2
          go_roundw
          case rel => exact ⟨k + 1, true, _, by go_num, rfl, by omega, HN.out, HOw2.out, HBw2.out⟩
          case measure => simp [intOf]; omega
        | false =>
          by_cases hls : s.data.toList < l[k].data.toList
          · have b1 : Op.bytesLess s.toList l[k].toList = true := by rw [less_data, decide_eq_true hls]
            have HN := Lib.hid (HA.out.put hget hls)
            clear hget HA hls
            generalize l[k] = r at *
            have HOa := Lib.hid (HO.out.alloc (.cells #[.string s] 9))
            have HBa := Lib.hid (HB.out.alloc HB.out.size (.cells #[.string s] 9))
            have HSb := Lib.hid (Sl.new (s := 1) wr 9 1 1 #[.string s] rfl (Nat.le_refl _) (by decide))
            go_upto_region 11 with (at_builtin; refine appStr _ _ rfl rfl rfl rfl HOa.out HSb.out (by simp [Value.oneCell']) (N := out.length + 1) (by simp) (by have := HOl.out; have := HLn.out; first | omega | (simp only [List.length_append, List.length_cons, List.length_nil]; omega)) HBa.out.size ?_; intro Aw2 cw2 w2 hap)
            have HBw2 := Lib.hid (below_of_own hap.grown HOa.out HBa.out (Nat.le_refl _))
            have HOw2 := Lib.hid (show w2.ownsRow w1.heap.size 9 1 (.slice Aw2 (out.length + 1) cw2) (out ++ [s]).length (namesV (out ++ [s])) by have e : (out ++ [s]).length = out.length + 1 := (by simp); rw [e, namesV_append]; exact hap.own)
            clear hap HOa HBa HSb
            clear c1 b1
            have c1 := below_cell HBw2.out HCe.out
            have HOa := Lib.hid (HOw2.out.alloc (.cells #[.string r] 9))
            have HBa := Lib.hid (HBw2.out.alloc HBw2.out.size (.cells #[.string r] 9))
            have HSb := Lib.hid (Sl.new (s := 1) w2 9 1 1 #[.string r] rfl (Nat.le_refl _) (by decide))
            go_wp2_with (at_builtin; refine appStr _ _ rfl rfl rfl rfl HOa.out HSb.out (by simp [Value.oneCell']) (N := out.length + 1 + 1) (by simp) (by have := HOl.out; have := HLn.out; first | omega | (simp only [List.length_append, List.length_cons, List.length_nil]; omega)) HBa.out.size ?_; intro Aw3 cw3 w3 hap)
            have HBw3 := Lib.hid (below_of_own hap.grown HOa.out HBa.out (Nat.le_refl _))
            have HOw3 := Lib.hid (show w3.ownsRow w1.heap.size 9 1 (.slice Aw3 (out.length + 1 + 1) cw3) (out ++ [s] ++ [r]).length (namesV (out ++ [s] ++ [r])) by have e : (out ++ [s] ++ [r]).length = out.length + 1 + 1 := (by simp); rw [e, namesV_append]; exact hap.own)
            clear hap HOa HBa HSb
            clear c1
            go_wp2
            go_roundw
            case rel => exact ⟨k + 1, true, _, by go_num, rfl, by omega, HN.out, HOw3.out, HBw3.out⟩
            case measure => simp [intOf]; omega
          · have b1 : Op.bytesLess s.toList l[k].toList = false := by rw [less_data, decide_eq_false hls]
            have HN := Lib.hid (HA.out.skip hget HM.out hls)
            clear hget HA hls
            generalize l[k] = r at *
            have HOa := Lib.hid (HO.out.alloc (.cells #[.string r] 9))
            have HBa := Lib.hid (HB.out.alloc HB.out.size (.cells #[.string r] 9))
            have HSb := Lib.hid (Sl.new (s := 1) wr 9 1 1 #[.string r] rfl (Nat.le_refl _) (by decide))
            go_wp2_with (at_builtin; refine appStr _ _ rfl rfl rfl rfl HOa.out HSb.out (by simp [Value.oneCell']) (N := out.length + 1) (by simp) (by have := HOl.out; have := HLn.out; first | omega | (simp only [List.length_append, List.length_cons, List.length_nil]; omega)) HBa.out.size ?_; intro Aw2 cw2 w2 hap)
            have HBw2 := Lib.hid (below_of_own hap.grown HOa.out HBa.out (Nat.le_refl _))
            have HOw2 := Lib.hid (show w2.ownsRow w1.heap.size 9 1 (.slice Aw2 (out.length + 1) cw2) (out ++ [r]).length (namesV (out ++ [r])) by have e : (out ++ [r]).length = out.length + 1 := (by simp); rw [e, namesV_append]; exact hap.own)
            clear hap HOa HBa HSb
            clear c1
            go_wp2
            go_roundw
            case rel => exact ⟨k + 1, false, _, by go_num, rfl, by omega, HN.out, HOw2.out, HBw2.out⟩
            case measure => simp [intOf]; omega
      · cases dn with
        | true =>
          have HE := Lib.hid (HA.out.endT (by omega))
          have HE2 := Lib.hid (Sl.of_own HO.out)
          rw [HE.out] at HE2 HO
          obtain ⟨A5, c5, e5, _⟩ := own_shape HO.out
          subst e5
          clear HA HE
          go_wp2
          go_ret
          exact ⟨HB.out, _, _, rfl, HE2.out⟩
        | false =>
          have HE := Lib.hid (HA.out.endF (by omega))
          clear HA
          have HOa := Lib.hid (HO.out.alloc (.cells #[.string s] 9))
          have HBa := Lib.hid (HB.out.alloc HB.out.size (.cells #[.string s] 9))
          have HSb := Lib.hid (Sl.new (s := 1) wr 9 1 1 #[.string s] rfl (Nat.le_refl _) (by decide))
          go_wp2_with (at_builtin; refine appStr _ _ rfl rfl rfl rfl HOa.out HSb.out (by simp [Value.oneCell']) (N := out.length + 1) (by simp) (by have := HOl.out; have := HLn.out; first | omega | (simp only [List.length_append, List.length_cons, List.length_nil]; omega)) HBa.out.size ?_; intro Aw2 cw2 w2 hap)
          have HBw2 := Lib.hid (below_of_own hap.grown HOa.out HBa.out (Nat.le_refl _))
          have HOw2 := Lib.hid (show w2.ownsRow w1.heap.size 9 1 (.slice Aw2 (out.length + 1) cw2) (out ++ [s]).length (namesV (out ++ [s])) by have e : (out ++ [s]).length = out.length + 1 := (by simp); rw [e, namesV_append]; exact hap.own)
          clear hap HOa HBa HSb
          go_wp2
          go_ret
          have HE2 := Sl.of_own HOw2.out
          rw [HE.out] at HE2
          have e6 : out.length + 1 = (insS s l).length := by rw [← HE.out]; simp
          rw [e6] at HE2 ⊢
          exact ⟨HBw2.out, _, _, rfl, HE2⟩
set_option maxRecDepth 100000 in
set_option maxHeartbeats 4000000 in
theorem rpeople_any (v : Value) (ds : List De) (w : World) (h : DeedsV w v ds) (hf : Few ds) :
    Calls Tryz.prog 73 #[v] w fun e w' => Below w.heap.size w w' ∧ ∃ A c, e = .returned (.slice A (allF ds).length c) ∧ Sl w' 1 (.slice A (allF ds).length c) (namesV (allF ds)) := by
  obtain ⟨A, c, rfl, h⟩ := h.shape
  obtain ⟨_, h1, h2⟩ := h.many
  have HD := Lib.hid (fun q => h.deed q)
  have HF := Lib.hid hf
  have HAd := Lib.hid (fun (l : List ByteArray) (s : ByteArray) (A : Option Addr) (c : Nat) (w' : World) (hs : Sl w' 1 (.slice A l.length c) (namesV l)) (hi : IncS l) (hl : l.length ≤ 1000) => radded_any (.slice A l.length c) l s w' hs hi (by omega))
  have HZ := Lib.hid (show (pplT ds 0).length = 0 by rw [pplT_zero]; rfl)
  have HS0 := Lib.hid (show Sl w 1 (.slice none (pplT ds 0).length 0) (namesV (pplT ds 0)) by rw [pplT_zero]; exact Sl.nil0 _ _)
  clear h hf
  go_enter Tryz.func73, Tryz.ntmps73
  go_wp2
  go_loopw [3, 4] (fun v ti wr => ∃ (k : Nat) (A : Option Addr) (c : Nat), ti = .int .i64 k ∧ k ≤ ds.length ∧ v = .slice A (pplT ds k).length c ∧ Hid (Sl wr 1 (.slice A (pplT ds k).length c) (namesV (pplT ds k))) ∧ Hid (Below w.heap.size w wr)) (fun _ ti _ => ds.length - (intOf ti).toNat)
  case atStart => exact ⟨0, none, 0, rfl, by omega, by rw [HZ.out], HS0.out, Below.refl _ _⟩
  case round =>
    clear HS0 HZ
    obtain ⟨k, A3, c3, rfl, hk, rfl, HO, HB⟩ := hrel
    obtain ⟨wo, hwo⟩ : ∃ wo, wo = wr := ⟨_, rfl⟩
    rw [← hwo] at HO HB ⊢
    clear hwo
    by_cases hlt : k < ds.length
    · have hki : (k : Int) < (ds.length : Int) := by omega
      have hk0 : (0 : Int) ≤ (k : Int) := by omega
      obtain ⟨b0, o0, rfl, hb, hce⟩ := HD.out (by omega)
      have hget : ds[k]? = some ds[k] := List.getElem?_eq_getElem hlt
      obtain ⟨g0, g1, g2, g3, Aw, nw, cw, g4, hsw⟩ := hce k _ hget
      have HG2 := Lib.hid g2
      have HG4 := Lib.hid g4
      have HSw := Lib.hid hsw
      have HM := Lib.hid (HAd.out (pplT ds k) ds[k].sealer A3 c3 wo HO.out (pplT_inc ds k) (Nat.le_trans (pplT_length HF.out k) (by omega)))
      rw [pplW_zero] at HM
      have HSu := Lib.hid (fun j s (hj : ds[k].wit[j]? = some s) => pplW_succ (ds := ds) (i := k) hj)
      have HEn := Lib.hid (fun j hj => pplW_all (k := j) hget hj)
      have HLe := Lib.hid (fun j => pplW_length HF.out (i := k) (k := j) (List.getElem_mem hlt))
      have HIn := Lib.hid (fun j => pplW_inc ds k ds[k] j)
      clear hce hget g0 g1 g2 g3 g4 hsw
      obtain ⟨d, hd⟩ : ∃ d, ds[k] = d := ⟨_, rfl⟩
      simp only [hd] at HG2 HG4 HSw HM HSu HEn HLe HIn
      clear hd
      obtain ⟨nm, yr, se, sl, wit⟩ := d
      simp only at HG2 HG4 HSw HM HSu HEn
      obtain ⟨_, _, ew, hw1, hw2, hw3⟩ := names_at2 HSw.out
      cases ew
      have HCw := Lib.hid hw3
      have c2 := below_cell HB.out HG2.out
      clear hw3 HSw
      go_wp2_with fail
      refine HM.out.mono ?_
      rintro e w2 ⟨hb2, A4, c4, rfl, hs4⟩
      have HB2 := Lib.hid (HB.out.trans (hb2.mono HB.out.size))
      have HS4 := Lib.hid hs4
      clear hb2 hs4 HM c2 HB HO
      go_wp2
      go_loopw [3, 5] (fun v ti wr => ∃ (j : Nat) (A : Option Addr) (c : Nat), ti = .int .i64 j ∧ j ≤ wit.length ∧ v = .slice A (pplW ds k ⟨nm, yr, se, sl, wit⟩ j).length c ∧ Hid (Sl wr 1 (.slice A (pplW ds k ⟨nm, yr, se, sl, wit⟩ j).length c) (namesV (pplW ds k ⟨nm, yr, se, sl, wit⟩ j))) ∧ Hid (Below w.heap.size w wr)) (fun _ ti _ => wit.length - (intOf ti).toNat)
      case atStart => exact ⟨0, A4, c4, rfl, by omega, rfl, HS4.out, HB2.out⟩
      case round =>
        clear HS4 HB2
        obtain ⟨j, A5, c5, rfl, hj, rfl, HO, HB⟩ := hrel
        have g4 := below_cell HB.out HG4.out
        by_cases hlj : j < wit.length
        · have hji : (j : Int) < (wit.length : Int) := by omega
          have hj0 : (0 : Int) ≤ (j : Int) := by omega
          obtain ⟨b1, o1, rfl, _, hcw⟩ := HCw.out (by omega)
          have hgw : wit[j]? = some wit[j] := List.getElem?_eq_getElem hlj
          have c5w := below_cell HB.out (hcw j _ hgw)
          have HM := Lib.hid (HAd.out _ wit[j] A5 c5 wr HO.out (HIn.out j) (Nat.le_trans (HLe.out j) (by omega)))
          rw [HSu.out j _ hgw] at HM
          clear hcw hgw
          generalize wit[j] = s at *
          go_wp2_with fail
          refine HM.out.mono ?_
          rintro e w3 ⟨hb3, A6, c6, rfl, hs6⟩
          have HB3 := Lib.hid (HB.out.trans (hb3.mono HB.out.size))
          have HS6 := Lib.hid hs6
          clear hb3 hs6 HM c5w g4 HB HO
          go_wp2
          go_roundw
          case rel => exact ⟨j + 1, A6, c6, by go_num, by omega, rfl, HS6.out, HB3.out⟩
          case measure => simp [intOf]; omega
        · have HE := Lib.hid (HEn.out j (by omega))
          rw [HE.out] at HO ⊢
          clear HE
          go_wp2
          exact ⟨⟨k + 1, A5, c5, by go_num, by omega, rfl, HO.out, HB.out⟩, by simp [intOf]; omega⟩
    · have HE := Lib.hid (show pplT ds k = allF ds from pplT_all (by omega))
      rw [HE.out] at HO ⊢
      clear HE
      go_wp2
      go_ret
      exact ⟨HB.out, _, _, rfl, HO.out⟩
end Go.Proofs.YtdmcopjbckelmaaGreatDoor
