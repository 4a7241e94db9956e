/- bridge, the values found: a merge. -/
import Derived.Test.YtmibpncmebhbjaaDoorP6
namespace Go.Proofs.YtmibpncmebhbjaaDoor
section
open Go Go.RowKit Go.Shelf
attribute [local go_sem] rrV

set_option maxRecDepth 100000 in
set_option maxHeartbeats 20000000 in
theorem bridge_merge (base Bk bm : Nat) (lv gv fv : Value) (st : St) (b : Br) (w : World) (hb : BookO w base Bk bm lv gv fv st) (hg : Good st) (hbase : base ≤ w.heap.size) (he : firstF [idxE st.ls b.A, idxE st.ls b.B] = 0)
    (i j : Nat) (hii : idxI st.ls b.A = i) (hjj : idxI st.ls b.B = j) (ni nj : ByteArray) (ui uj : List Un) (hli : ladOf st i = (ni, ui)) (hlj : ladOf st j = (nj, uj))
    (va vb : Int) (hva : valueF ni ui b.SA = (va, 0)) (hvb : valueF nj uj b.SB = (vb, 0)) (hr : isR b.N b.D = true) (hp : decide (0 < b.N) = true) (gi gj : Nat) (hgi : grpAt st i = gi) (hgj : grpAt st j = gj)
    (q : Int) (st' : St) (hF : (if gi = gj then (needF (decide (facAt st i * (facAt st j)⁻¹ * (ownQ b.N b.D va vb)⁻¹ = 1)) 12, st) else (0, { st with grp := brGrp st b st.ls.length, fac := brFac st b st.ls.length })) = (q, st')) (hgg : ¬ gi = gj) :
    Calls Tryd.prog 99 #[.pointer (some ⟨Bk, 0, none⟩), .agg #[.string b.A, .string b.SA, .string b.B, .string b.SB, .int .i64 b.N, .int .i64 b.D]] w fun e w' => e = .returned (.int .i64 q) ∧ Below base w w' ∧ BookO w' base Bk bm lv gv fv st' := by
  have bva := valueF_pos hva
  have bvb := valueF_pos hvb
  have bR := isR_bd hr
  have bN : 1 ≤ b.N := by have := of_decide_eq_true hp; omega
  obtain ⟨hea, heb⟩ := firstF2_zero he
  have hi := idxI_lt hea
  have hj := idxI_lt heb
  have Y := Cel.new w 83 #[.string b.A, .string b.SA, .string b.B, .string b.SB, .int .i64 b.N, .int .i64 b.D]
  have hw0 := below_alloc' w (.cells #[.string b.A, .string b.SA, .string b.B, .string b.SB, .int .i64 b.N, .int .i64 b.D] 83)
  obtain ⟨W, hW⟩ : ∃ W, w.alloc (.cells #[.string b.A, .string b.SA, .string b.B, .string b.SB, .int .i64 b.N, .int .i64 b.D] 83) = W := ⟨_, rfl⟩
  rw [hW] at Y hw0
  have hv := hb.view.below hw0
  have HI1 := Lib.hid (index_any Bk bm lv gv fv st.ls b.A W hv.blk hv.place)
  have HI2 := Lib.hid (index_any Bk bm lv gv fv st.ls b.B W hv.blk hv.place)
  have H3 : Hid (∀ w : World, Calls Tryd.prog 102 #[.slice (some ⟨w.heap.size, 0, none⟩) 2 2] (w.alloc (.cells #[.int .i64 0, .int .i64 0] 24)) fun e w' => e = .returned (.int .i64 0) ∧ w.alloc (.cells #[.int .i64 0, .int .i64 0] 24) = w') := fun w => first2_any _ _ _ w rfl
  obtain ⟨bl, ol, Ai, ci, cl, hlv, hbl, e0, e1, hsi, hni⟩ := hv.lad hi
  obtain ⟨bl', ol', Aj, cj, cl', hlv', _, e2, e3, hsj, hnj⟩ := hv.lad hj
  rw [hlv] at hlv'
  cases hlv'
  rw [hii] at HI1 hi e0 e1 hsi hni
  rw [hjj] at HI2 hj e2 e3 hsj hnj
  rw [hli] at e0 e1 hsi hni
  rw [hlj] at e2 e3 hsj hnj
  rw [hea] at HI1
  rw [heb] at HI2
  have HV1 : Hid (∀ w', Below W.heap.size W w' → Calls Tryd.prog 29 #[.agg #[.string ni, .slice Ai ui.length ci], .string b.SA] w' fun e w'' => e = .returned (.tuple #[.int .i64 va, .int .i64 0]) ∧ Below w'.heap.size w' w'') := by
    intro w' hb'
    have := value_any ni hni (.agg #[.string ni, .slice Ai ui.length ci]) ui b.SA w' ⟨_, _, _, rfl, hsi.below hb'⟩
    rwa [hva] at this
  have HV2 : Hid (∀ w', Below W.heap.size W w' → Calls Tryd.prog 29 #[.agg #[.string nj, .slice Aj uj.length cj], .string b.SB] w' fun e w'' => e = .returned (.tuple #[.int .i64 vb, .int .i64 0]) ∧ Below w'.heap.size w' w'') := by
    intro w' hb'
    have := value_any nj hnj (.agg #[.string nj, .slice Aj uj.length cj]) uj b.SB w' ⟨_, _, _, rfl, hsj.below hb'⟩
    rwa [hvb] at this
  have HRR : Hid (∀ w', Calls Tryd.prog 23 #[.agg #[.int .i64 b.N, .int .i64 b.D]] w' fun e w'' => e = .returned (.bool true) ∧ Below w'.heap.size w' w'') := by
    intro w'
    have := isRatio_any b.N b.D w' b.hN.1 b.hN.2 b.hD.1 b.hD.2
    rwa [hr] at this
  have a0 := Y.cell 0 (.string b.A) rfl
  have a1 := Y.cell 1 (.string b.SA) rfl
  have a2 := Y.cell 2 (.string b.B) rfl
  have a3 := Y.cell 3 (.string b.SB) rfl
  have a4 := Y.cell 4 (.int .i64 b.N) rfl
  have a5 := Y.cell 5 (.int .i64 b.D) rfl
  have hW1 := below_alloc' W (.cells #[.int .i64 0, .int .i64 0] 24)
  have hlvc := hv.blk.cell 0 _ rfl
  rw [hlv] at hlvc
  have HK : Hid (∀ w', Below W.heap.size W w' → w'.cell? ⟨Bk, 0, none⟩ = some (.slice (some ⟨bl, ol, none⟩) st.ls.length cl) ∧ w'.cell? ⟨bl, ol + i * 2, none⟩ = some (.string ni) ∧ w'.cell? ⟨bl, ol + i * 2 + 1, none⟩ = some (.slice Ai ui.length ci) ∧
      w'.cell? ⟨bl, ol + j * 2, none⟩ = some (.string nj) ∧ w'.cell? ⟨bl, ol + j * 2 + 1, none⟩ = some (.slice Aj uj.length cj) ∧
      w'.cell? ⟨w.heap.size, 1, none⟩ = some (.string b.SA) ∧ w'.cell? ⟨w.heap.size, 3, none⟩ = some (.string b.SB) ∧ w'.cell? ⟨w.heap.size, 4, none⟩ = some (.int .i64 b.N) ∧ w'.cell? ⟨w.heap.size, 5, none⟩ = some (.int .i64 b.D)) := by
    intro w' hb'
    exact ⟨below_cell hb' hlvc, below_cell hb' e0, below_cell hb' e1, below_cell hb' e2, below_cell hb' e3, below_cell hb' a1, below_cell hb' a3, below_cell hb' a4, below_cell hb' a5⟩
  have HW0 := Lib.hid hw0
  have HWAY : Hid (brWay st b = (facAt st i)⁻¹ * ownQ b.N b.D va vb * facAt st j) := by
    have h1 : brI st b = i := hii
    have h2 : brJ st b = j := hjj
    show brWay st b = _
    simp only [brWay, brOwn, brVa, brVb, h1, h2, hli, hlj, hva, hvb]
  clear hv hw0 he hea heb hsi hsj hni hnj e0 e1 e2 e3 hli hlj hva hvb hlvc hlv hbl a1 a3 a4 a5 Y
  go_enter Tryd.func99, Tryd.ntmps99
  go_wp2_with (first | (go_at_call_of 101 (Value.string b.A); refine HI1.out.mono ?_; rintro e w1 ⟨rfl, rfl⟩) | (go_at_call_of 101 (Value.string b.B); refine HI2.out.mono ?_; rintro e w1 ⟨rfl, rfl⟩) | (go_at_call 102; refine (H3.out _).mono ?_; rintro e w1 ⟨rfl, rfl⟩))
  obtain ⟨V, hV⟩ : ∃ V, W.alloc (.cells #[.int .i64 0, .int .i64 0] 24) = V := ⟨_, rfl⟩
  rw [hV] at hW1 ⊢
  obtain ⟨k0, k1, k2, k3, k4, k5, k6, k7, k8⟩ := HK.out V hW1
  have HW1 := Lib.hid hW1
  clear hW1 a0 a2
  go_region_held3 (fun w' => w'.cell? ⟨Bk, 0, none⟩ = some (.slice (some ⟨bl, ol, none⟩) st.ls.length cl) ∧ w'.cell? ⟨bl, ol + i * 2, none⟩ = some (.string ni) ∧ w'.cell? ⟨bl, ol + i * 2 + 1, none⟩ = some (.slice Ai ui.length ci) ∧ w'.cell? ⟨w.heap.size, 1, none⟩ = some (.string b.SA))
    (first | go_keep | (obtain ⟨l0, l1, l2, l3, l4, l5, l6, l7, l8⟩ := HK.out _ hbl1; exact ⟨l0, l1, l2, l5⟩)) (first
    | (go_at_call 29; refine (HV1.out _ (below_drew HW1.out)).mono ?_; rintro e w1 ⟨rfl, hb1⟩; have hbl1 : Below W.heap.size W w1 := below_then HW1.out (below_undrew hb1)))
  obtain ⟨l0, l1, l2, l3, l4, l5, l6, l7, l8⟩ := HK.out w1 hbl1
  clear k0 k1 k2 k3 k4 k5 k6 k7 k8
  have HB1 := Lib.hid hbl1
  clear hbl1
  go_wp2
  go_region_held3 (fun w' => w'.cell? ⟨Bk, 0, none⟩ = some (.slice (some ⟨bl, ol, none⟩) st.ls.length cl) ∧ w'.cell? ⟨bl, ol + j * 2, none⟩ = some (.string nj) ∧ w'.cell? ⟨bl, ol + j * 2 + 1, none⟩ = some (.slice Aj uj.length cj) ∧ w'.cell? ⟨w.heap.size, 3, none⟩ = some (.string b.SB))
    (first | go_keep | (obtain ⟨m0, m1, m2, m3, m4, m5, m6, m7, m8⟩ := HK.out _ hbl2; exact ⟨m0, m3, m4, m6⟩)) (first
    | (go_at_call 29; refine (HV2.out _ (below_drew HB1.out)).mono ?_; rintro e w2 ⟨rfl, hb2⟩; have hbl2 : Below W.heap.size W w2 := below_then HB1.out (below_undrew hb2)))
  obtain ⟨m0, m1, m2, m3, m4, m5, m6, m7, m8⟩ := HK.out w2 hbl2
  clear l0 l1 l2 l3 l4 l5 l6 l7 l8
  have HB2 := Lib.hid hbl2
  clear hbl2
  have HBL := Lib.hid hb.toL
  have HBK := Lib.hid (hb.view.below HW0.out)
  have HG := Lib.hid hg
  have HO := Lib.hid hb
  have HF := Lib.hid hF
  have HGQ := Lib.hid hgg
  have HII := Lib.hid hii
  have HJJ := Lib.hid hjj
  clear hF hgg
  clear hb hg hii hjj
  go_wp2_with (first | (go_at_call 23; refine (HRR.out w2).mono ?_; rintro e w3 ⟨rfl, hb3⟩; have hbl3 : Below W.heap.size W w3 := below_then HB2.out hb3; obtain ⟨n0, n1, n2, n3, n4, n5, n6, n7, n8⟩ := HK.out _ hbl3; have HB3 := Lib.hid hbl3; clear hbl3 m0 m1 m2 m3 m4 m5 m6 m7 m8) | (go_at_call 97; refine (need_any true 2 _).mono ?_; rintro e w4 ⟨rfl, rfl⟩) | (go_at_call 102; refine (first3_any 0 0 0 0 _ rfl).mono ?_; rintro e w5 ⟨rfl, rfl⟩))
  obtain ⟨V2, hV2⟩ : ∃ V2, w3.alloc (.cells #[.int .i64 0, .int .i64 0, .int .i64 0] 24) = V2 := ⟨_, rfl⟩
  have hbV2 : Below W.heap.size W V2 := by rw [← hV2]; exact HB3.out.alloc HB3.out.size _
  rw [hV2]
  clear n0 n1 n2 n3 n4 n5 n6 n7 n8 HV1 HV2 HRR HI1 HI2 H3
  obtain ⟨n0, n1, n2, n3, n4, n5, n6, n7, n8⟩ := HK.out _ hbV2
  clear n0 n1 n2 n3 n4 n5 n6
  have HBV2 := Lib.hid hbV2
  have HRAB : Hid (Calls Tryd.prog 121 #[.agg #[.slice (some ⟨V2.heap.size, 0, none⟩) 2 2, .slice (some ⟨V2.heap.size + 1, 0, none⟩) 2 2]] ((V2.alloc (.cells #[.int .u64 b.N.natAbs, .int .u64 vb.natAbs] 117)).alloc (.cells #[.int .u64 b.D.natAbs, .int .u64 va.natAbs] 117)).drew fun e w'' => ∃ A1 m1 i1 A2 m2 i2, e = .returned (.agg #[.slice A1 m1 i1, .slice A2 m2 i2]) ∧ Below V2.heap.size V2 w'' ∧ Hid (PV w'' (.agg #[.slice A1 m1 i1, .slice A2 m2 i2]) (ownQ b.N b.D va vb) 2)) := by
    have hbw : Below V2.heap.size V2 ((V2.alloc (.cells #[.int .u64 b.N.natAbs, .int .u64 vb.natAbs] 117)).alloc (.cells #[.int .u64 b.D.natAbs, .int .u64 va.natAbs] 117)) := below2 _ _ _
    have h1 : Sl ((V2.alloc (.cells #[.int .u64 b.N.natAbs, .int .u64 vb.natAbs] 117)).alloc (.cells #[.int .u64 b.D.natAbs, .int .u64 va.natAbs] 117)) 1 (.slice (some ⟨V2.heap.size, 0, none⟩) 2 2) (u64s [b.N.natAbs, vb.natAbs]) := ((Cel.at _ (V2.heap.size) _ #[.int .u64 b.N.natAbs, .int .u64 vb.natAbs] (by simp)).alloc _).sl (s := 1) rfl rfl (Nat.le_refl 2) (by decide)
    have h2 : Sl ((V2.alloc (.cells #[.int .u64 b.N.natAbs, .int .u64 vb.natAbs] 117)).alloc (.cells #[.int .u64 b.D.natAbs, .int .u64 va.natAbs] 117)) 1 (.slice (some ⟨V2.heap.size + 1, 0, none⟩) 2 2) (u64s [b.D.natAbs, va.natAbs]) := (Cel.at _ (V2.heap.size + 1) _ #[.int .u64 b.D.natAbs, .int .u64 va.natAbs] (by simp)).sl (s := 1) rfl rfl (Nat.le_refl 2) (by decide)
    refine (own_pv b.N b.D va vb bN (by omega) bR.1 (by omega) bva.1 (by omega) bvb.1 (by omega) _ _ _ h1.drew h2.drew).mono ?_
    rintro e w'' ⟨r, rfl, hb', hp'⟩
    obtain ⟨A1, m1, i1, A2, m2, i2, rfl⟩ := hp'.shape
    exact ⟨A1, m1, i1, A2, m2, i2, rfl, below_then (below_drew hbw) hb', hp'⟩
  have HRBA : Hid (Calls Tryd.prog 121 #[.agg #[.slice (some ⟨V2.heap.size + 1, 0, none⟩) 2 2, .slice (some ⟨V2.heap.size, 0, none⟩) 2 2]] ((V2.alloc (.cells #[.int .u64 b.D.natAbs, .int .u64 va.natAbs] 117)).alloc (.cells #[.int .u64 b.N.natAbs, .int .u64 vb.natAbs] 117)).drew fun e w'' => ∃ A1 m1 i1 A2 m2 i2, e = .returned (.agg #[.slice A1 m1 i1, .slice A2 m2 i2]) ∧ Below V2.heap.size V2 w'' ∧ Hid (PV w'' (.agg #[.slice A1 m1 i1, .slice A2 m2 i2]) (ownQ b.N b.D va vb) 2)) := by
    have hbw : Below V2.heap.size V2 ((V2.alloc (.cells #[.int .u64 b.D.natAbs, .int .u64 va.natAbs] 117)).alloc (.cells #[.int .u64 b.N.natAbs, .int .u64 vb.natAbs] 117)) := below2 _ _ _
    have h1 : Sl ((V2.alloc (.cells #[.int .u64 b.D.natAbs, .int .u64 va.natAbs] 117)).alloc (.cells #[.int .u64 b.N.natAbs, .int .u64 vb.natAbs] 117)) 1 (.slice (some ⟨V2.heap.size + 1, 0, none⟩) 2 2) (u64s [b.N.natAbs, vb.natAbs]) := (Cel.at _ (V2.heap.size + 1) _ #[.int .u64 b.N.natAbs, .int .u64 vb.natAbs] (by simp)).sl (s := 1) rfl rfl (Nat.le_refl 2) (by decide)
    have h2 : Sl ((V2.alloc (.cells #[.int .u64 b.D.natAbs, .int .u64 va.natAbs] 117)).alloc (.cells #[.int .u64 b.N.natAbs, .int .u64 vb.natAbs] 117)) 1 (.slice (some ⟨V2.heap.size, 0, none⟩) 2 2) (u64s [b.D.natAbs, va.natAbs]) := ((Cel.at _ (V2.heap.size) _ #[.int .u64 b.D.natAbs, .int .u64 va.natAbs] (by simp)).alloc _).sl (s := 1) rfl rfl (Nat.le_refl 2) (by decide)
    refine (own_pv b.N b.D va vb bN (by omega) bR.1 (by omega) bva.1 (by omega) bvb.1 (by omega) _ _ _ h1.drew h2.drew).mono ?_
    rintro e w'' ⟨r, rfl, hb', hp'⟩
    obtain ⟨A1, m1, i1, A2, m2, i2, rfl⟩ := hp'.shape
    exact ⟨A1, m1, i1, A2, m2, i2, rfl, below_then (below_drew hbw) hb', hp'⟩
  have HRABX : Hid (Calls Tryd.prog 121 #[.agg #[.slice (some ⟨V2.heap.size, 0, none⟩) 2 2, .slice (some ⟨V2.heap.size + 1, 0, none⟩) 2 2]] (((V2.alloc (.cells #[.int .u64 b.N.natAbs, .int .u64 vb.natAbs] 117)).alloc (.cells #[.int .u64 b.D.natAbs, .int .u64 va.natAbs] 117)).alloc (.cells #[.slice none 0 0, .slice none 0 0] 121)).drew fun e w'' => ∃ A1 m1 i1 A2 m2 i2, e = .returned (.agg #[.slice A1 m1 i1, .slice A2 m2 i2]) ∧ Below V2.heap.size V2 w'' ∧ Hid (PV w'' (.agg #[.slice A1 m1 i1, .slice A2 m2 i2]) (ownQ b.N b.D va vb) 2) ∧ Hid (Cel w'' (V2.heap.size + 1 + 1) 121 #[.slice none 0 0, .slice none 0 0]) ∧ w''.cell? ⟨V2.heap.size + 1 + 1, 0, none⟩ = some (.slice none 0 0) ∧ w''.cell? ⟨V2.heap.size + 1 + 1, 1, none⟩ = some (.slice none 0 0) ∧ w''.frozen? ⟨V2.heap.size + 1 + 1, 0, none⟩ = false ∧ w''.frozen? ⟨V2.heap.size + 1 + 1, 1, none⟩ = false) := by
    have hbw : Below V2.heap.size V2 (((V2.alloc (.cells #[.int .u64 b.N.natAbs, .int .u64 vb.natAbs] 117)).alloc (.cells #[.int .u64 b.D.natAbs, .int .u64 va.natAbs] 117)).alloc (.cells #[.slice none 0 0, .slice none 0 0] 121)) := below3 _ _ _ _
    have h1 : Sl (((V2.alloc (.cells #[.int .u64 b.N.natAbs, .int .u64 vb.natAbs] 117)).alloc (.cells #[.int .u64 b.D.natAbs, .int .u64 va.natAbs] 117)).alloc (.cells #[.slice none 0 0, .slice none 0 0] 121)) 1 (.slice (some ⟨V2.heap.size, 0, none⟩) 2 2) (u64s [b.N.natAbs, vb.natAbs]) := (((Cel.at _ (V2.heap.size) _ #[.int .u64 b.N.natAbs, .int .u64 vb.natAbs] (by simp)).alloc _).alloc _).sl (s := 1) rfl rfl (Nat.le_refl 2) (by decide)
    have h2 : Sl (((V2.alloc (.cells #[.int .u64 b.N.natAbs, .int .u64 vb.natAbs] 117)).alloc (.cells #[.int .u64 b.D.natAbs, .int .u64 va.natAbs] 117)).alloc (.cells #[.slice none 0 0, .slice none 0 0] 121)) 1 (.slice (some ⟨V2.heap.size + 1, 0, none⟩) 2 2) (u64s [b.D.natAbs, va.natAbs]) := ((Cel.at _ (V2.heap.size + 1) _ #[.int .u64 b.D.natAbs, .int .u64 va.natAbs] (by simp)).alloc _).sl (s := 1) rfl rfl (Nat.le_refl 2) (by decide)
    have hx : Cel (((V2.alloc (.cells #[.int .u64 b.N.natAbs, .int .u64 vb.natAbs] 117)).alloc (.cells #[.int .u64 b.D.natAbs, .int .u64 va.natAbs] 117)).alloc (.cells #[.slice none 0 0, .slice none 0 0] 121)) (V2.heap.size + 1 + 1) 121 #[.slice none 0 0, .slice none 0 0] := (Cel.at _ (V2.heap.size + 1 + 1) 121 #[.slice none 0 0, .slice none 0 0] (by simp))
    refine (own_pv b.N b.D va vb bN (by omega) bR.1 (by omega) bva.1 (by omega) bvb.1 (by omega) _ _ _ h1.drew h2.drew).mono ?_
    rintro e w'' ⟨r, rfl, hb', hp'⟩
    obtain ⟨A1, m1, i1, A2, m2, i2, rfl⟩ := hp'.shape
    exact ⟨A1, m1, i1, A2, m2, i2, rfl, below_then (below_drew hbw) hb', hp', celBelow hx (below_undrew hb'), box2 (celBelow hx (below_undrew hb'))⟩
  have HRBAX : Hid (Calls Tryd.prog 121 #[.agg #[.slice (some ⟨V2.heap.size + 1, 0, none⟩) 2 2, .slice (some ⟨V2.heap.size, 0, none⟩) 2 2]] (((V2.alloc (.cells #[.int .u64 b.D.natAbs, .int .u64 va.natAbs] 117)).alloc (.cells #[.int .u64 b.N.natAbs, .int .u64 vb.natAbs] 117)).alloc (.cells #[.slice none 0 0, .slice none 0 0] 121)).drew fun e w'' => ∃ A1 m1 i1 A2 m2 i2, e = .returned (.agg #[.slice A1 m1 i1, .slice A2 m2 i2]) ∧ Below V2.heap.size V2 w'' ∧ Hid (PV w'' (.agg #[.slice A1 m1 i1, .slice A2 m2 i2]) (ownQ b.N b.D va vb) 2) ∧ Hid (Cel w'' (V2.heap.size + 1 + 1) 121 #[.slice none 0 0, .slice none 0 0]) ∧ w''.cell? ⟨V2.heap.size + 1 + 1, 0, none⟩ = some (.slice none 0 0) ∧ w''.cell? ⟨V2.heap.size + 1 + 1, 1, none⟩ = some (.slice none 0 0) ∧ w''.frozen? ⟨V2.heap.size + 1 + 1, 0, none⟩ = false ∧ w''.frozen? ⟨V2.heap.size + 1 + 1, 1, none⟩ = false) := by
    have hbw : Below V2.heap.size V2 (((V2.alloc (.cells #[.int .u64 b.D.natAbs, .int .u64 va.natAbs] 117)).alloc (.cells #[.int .u64 b.N.natAbs, .int .u64 vb.natAbs] 117)).alloc (.cells #[.slice none 0 0, .slice none 0 0] 121)) := below3 _ _ _ _
    have h1 : Sl (((V2.alloc (.cells #[.int .u64 b.D.natAbs, .int .u64 va.natAbs] 117)).alloc (.cells #[.int .u64 b.N.natAbs, .int .u64 vb.natAbs] 117)).alloc (.cells #[.slice none 0 0, .slice none 0 0] 121)) 1 (.slice (some ⟨V2.heap.size + 1, 0, none⟩) 2 2) (u64s [b.N.natAbs, vb.natAbs]) := ((Cel.at _ (V2.heap.size + 1) _ #[.int .u64 b.N.natAbs, .int .u64 vb.natAbs] (by simp)).alloc _).sl (s := 1) rfl rfl (Nat.le_refl 2) (by decide)
    have h2 : Sl (((V2.alloc (.cells #[.int .u64 b.D.natAbs, .int .u64 va.natAbs] 117)).alloc (.cells #[.int .u64 b.N.natAbs, .int .u64 vb.natAbs] 117)).alloc (.cells #[.slice none 0 0, .slice none 0 0] 121)) 1 (.slice (some ⟨V2.heap.size, 0, none⟩) 2 2) (u64s [b.D.natAbs, va.natAbs]) := (((Cel.at _ (V2.heap.size) _ #[.int .u64 b.D.natAbs, .int .u64 va.natAbs] (by simp)).alloc _).alloc _).sl (s := 1) rfl rfl (Nat.le_refl 2) (by decide)
    have hx : Cel (((V2.alloc (.cells #[.int .u64 b.D.natAbs, .int .u64 va.natAbs] 117)).alloc (.cells #[.int .u64 b.N.natAbs, .int .u64 vb.natAbs] 117)).alloc (.cells #[.slice none 0 0, .slice none 0 0] 121)) (V2.heap.size + 1 + 1) 121 #[.slice none 0 0, .slice none 0 0] := (Cel.at _ (V2.heap.size + 1 + 1) 121 #[.slice none 0 0, .slice none 0 0] (by simp))
    refine (own_pv b.N b.D va vb bN (by omega) bR.1 (by omega) bva.1 (by omega) bvb.1 (by omega) _ _ _ h1.drew h2.drew).mono ?_
    rintro e w'' ⟨r, rfl, hb', hp'⟩
    obtain ⟨A1, m1, i1, A2, m2, i2, rfl⟩ := hp'.shape
    exact ⟨A1, m1, i1, A2, m2, i2, rfl, below_then (below_drew hbw) hb', hp', celBelow hx (below_undrew hb'), box2 (celBelow hx (below_undrew hb'))⟩
  have HRAXB : Hid (Calls Tryd.prog 121 #[.agg #[.slice (some ⟨V2.heap.size, 0, none⟩) 2 2, .slice (some ⟨V2.heap.size + 1 + 1, 0, none⟩) 2 2]] (((V2.alloc (.cells #[.int .u64 b.N.natAbs, .int .u64 vb.natAbs] 117)).alloc (.cells #[.slice none 0 0, .slice none 0 0] 121)).alloc (.cells #[.int .u64 b.D.natAbs, .int .u64 va.natAbs] 117)).drew fun e w'' => ∃ A1 m1 i1 A2 m2 i2, e = .returned (.agg #[.slice A1 m1 i1, .slice A2 m2 i2]) ∧ Below V2.heap.size V2 w'' ∧ Hid (PV w'' (.agg #[.slice A1 m1 i1, .slice A2 m2 i2]) (ownQ b.N b.D va vb) 2) ∧ Hid (Cel w'' (V2.heap.size + 1) 121 #[.slice none 0 0, .slice none 0 0]) ∧ w''.cell? ⟨V2.heap.size + 1, 0, none⟩ = some (.slice none 0 0) ∧ w''.cell? ⟨V2.heap.size + 1, 1, none⟩ = some (.slice none 0 0) ∧ w''.frozen? ⟨V2.heap.size + 1, 0, none⟩ = false ∧ w''.frozen? ⟨V2.heap.size + 1, 1, none⟩ = false) := by
    have hbw : Below V2.heap.size V2 (((V2.alloc (.cells #[.int .u64 b.N.natAbs, .int .u64 vb.natAbs] 117)).alloc (.cells #[.slice none 0 0, .slice none 0 0] 121)).alloc (.cells #[.int .u64 b.D.natAbs, .int .u64 va.natAbs] 117)) := below3 _ _ _ _
    have h1 : Sl (((V2.alloc (.cells #[.int .u64 b.N.natAbs, .int .u64 vb.natAbs] 117)).alloc (.cells #[.slice none 0 0, .slice none 0 0] 121)).alloc (.cells #[.int .u64 b.D.natAbs, .int .u64 va.natAbs] 117)) 1 (.slice (some ⟨V2.heap.size, 0, none⟩) 2 2) (u64s [b.N.natAbs, vb.natAbs]) := (((Cel.at _ (V2.heap.size) _ #[.int .u64 b.N.natAbs, .int .u64 vb.natAbs] (by simp)).alloc _).alloc _).sl (s := 1) rfl rfl (Nat.le_refl 2) (by decide)
    have h2 : Sl (((V2.alloc (.cells #[.int .u64 b.N.natAbs, .int .u64 vb.natAbs] 117)).alloc (.cells #[.slice none 0 0, .slice none 0 0] 121)).alloc (.cells #[.int .u64 b.D.natAbs, .int .u64 va.natAbs] 117)) 1 (.slice (some ⟨V2.heap.size + 1 + 1, 0, none⟩) 2 2) (u64s [b.D.natAbs, va.natAbs]) := (Cel.at _ (V2.heap.size + 1 + 1) _ #[.int .u64 b.D.natAbs, .int .u64 va.natAbs] (by simp)).sl (s := 1) rfl rfl (Nat.le_refl 2) (by decide)
    have hx : Cel (((V2.alloc (.cells #[.int .u64 b.N.natAbs, .int .u64 vb.natAbs] 117)).alloc (.cells #[.slice none 0 0, .slice none 0 0] 121)).alloc (.cells #[.int .u64 b.D.natAbs, .int .u64 va.natAbs] 117)) (V2.heap.size + 1) 121 #[.slice none 0 0, .slice none 0 0] := ((Cel.at _ (V2.heap.size + 1) 121 #[.slice none 0 0, .slice none 0 0] (by simp)).alloc _)
    refine (own_pv b.N b.D va vb bN (by omega) bR.1 (by omega) bva.1 (by omega) bvb.1 (by omega) _ _ _ h1.drew h2.drew).mono ?_
    rintro e w'' ⟨r, rfl, hb', hp'⟩
    obtain ⟨A1, m1, i1, A2, m2, i2, rfl⟩ := hp'.shape
    exact ⟨A1, m1, i1, A2, m2, i2, rfl, below_then (below_drew hbw) hb', hp', celBelow hx (below_undrew hb'), box2 (celBelow hx (below_undrew hb'))⟩
  have HRXAB : Hid (Calls Tryd.prog 121 #[.agg #[.slice (some ⟨V2.heap.size + 1, 0, none⟩) 2 2, .slice (some ⟨V2.heap.size + 1 + 1, 0, none⟩) 2 2]] (((V2.alloc (.cells #[.slice none 0 0, .slice none 0 0] 121)).alloc (.cells #[.int .u64 b.N.natAbs, .int .u64 vb.natAbs] 117)).alloc (.cells #[.int .u64 b.D.natAbs, .int .u64 va.natAbs] 117)).drew fun e w'' => ∃ A1 m1 i1 A2 m2 i2, e = .returned (.agg #[.slice A1 m1 i1, .slice A2 m2 i2]) ∧ Below V2.heap.size V2 w'' ∧ Hid (PV w'' (.agg #[.slice A1 m1 i1, .slice A2 m2 i2]) (ownQ b.N b.D va vb) 2) ∧ Hid (Cel w'' (V2.heap.size) 121 #[.slice none 0 0, .slice none 0 0]) ∧ w''.cell? ⟨V2.heap.size, 0, none⟩ = some (.slice none 0 0) ∧ w''.cell? ⟨V2.heap.size, 1, none⟩ = some (.slice none 0 0) ∧ w''.frozen? ⟨V2.heap.size, 0, none⟩ = false ∧ w''.frozen? ⟨V2.heap.size, 1, none⟩ = false) := by
    have hbw : Below V2.heap.size V2 (((V2.alloc (.cells #[.slice none 0 0, .slice none 0 0] 121)).alloc (.cells #[.int .u64 b.N.natAbs, .int .u64 vb.natAbs] 117)).alloc (.cells #[.int .u64 b.D.natAbs, .int .u64 va.natAbs] 117)) := below3 _ _ _ _
    have h1 : Sl (((V2.alloc (.cells #[.slice none 0 0, .slice none 0 0] 121)).alloc (.cells #[.int .u64 b.N.natAbs, .int .u64 vb.natAbs] 117)).alloc (.cells #[.int .u64 b.D.natAbs, .int .u64 va.natAbs] 117)) 1 (.slice (some ⟨V2.heap.size + 1, 0, none⟩) 2 2) (u64s [b.N.natAbs, vb.natAbs]) := ((Cel.at _ (V2.heap.size + 1) _ #[.int .u64 b.N.natAbs, .int .u64 vb.natAbs] (by simp)).alloc _).sl (s := 1) rfl rfl (Nat.le_refl 2) (by decide)
    have h2 : Sl (((V2.alloc (.cells #[.slice none 0 0, .slice none 0 0] 121)).alloc (.cells #[.int .u64 b.N.natAbs, .int .u64 vb.natAbs] 117)).alloc (.cells #[.int .u64 b.D.natAbs, .int .u64 va.natAbs] 117)) 1 (.slice (some ⟨V2.heap.size + 1 + 1, 0, none⟩) 2 2) (u64s [b.D.natAbs, va.natAbs]) := (Cel.at _ (V2.heap.size + 1 + 1) _ #[.int .u64 b.D.natAbs, .int .u64 va.natAbs] (by simp)).sl (s := 1) rfl rfl (Nat.le_refl 2) (by decide)
    have hx : Cel (((V2.alloc (.cells #[.slice none 0 0, .slice none 0 0] 121)).alloc (.cells #[.int .u64 b.N.natAbs, .int .u64 vb.natAbs] 117)).alloc (.cells #[.int .u64 b.D.natAbs, .int .u64 va.natAbs] 117)) (V2.heap.size) 121 #[.slice none 0 0, .slice none 0 0] := (((Cel.at _ (V2.heap.size) 121 #[.slice none 0 0, .slice none 0 0] (by simp)).alloc _).alloc _)
    refine (own_pv b.N b.D va vb bN (by omega) bR.1 (by omega) bva.1 (by omega) bvb.1 (by omega) _ _ _ h1.drew h2.drew).mono ?_
    rintro e w'' ⟨r, rfl, hb', hp'⟩
    obtain ⟨A1, m1, i1, A2, m2, i2, rfl⟩ := hp'.shape
    exact ⟨A1, m1, i1, A2, m2, i2, rfl, below_then (below_drew hbw) hb', hp', celBelow hx (below_undrew hb'), box2 (celBelow hx (below_undrew hb'))⟩
  have HRBXA : Hid (Calls Tryd.prog 121 #[.agg #[.slice (some ⟨V2.heap.size + 1 + 1, 0, none⟩) 2 2, .slice (some ⟨V2.heap.size, 0, none⟩) 2 2]] (((V2.alloc (.cells #[.int .u64 b.D.natAbs, .int .u64 va.natAbs] 117)).alloc (.cells #[.slice none 0 0, .slice none 0 0] 121)).alloc (.cells #[.int .u64 b.N.natAbs, .int .u64 vb.natAbs] 117)).drew fun e w'' => ∃ A1 m1 i1 A2 m2 i2, e = .returned (.agg #[.slice A1 m1 i1, .slice A2 m2 i2]) ∧ Below V2.heap.size V2 w'' ∧ Hid (PV w'' (.agg #[.slice A1 m1 i1, .slice A2 m2 i2]) (ownQ b.N b.D va vb) 2) ∧ Hid (Cel w'' (V2.heap.size + 1) 121 #[.slice none 0 0, .slice none 0 0]) ∧ w''.cell? ⟨V2.heap.size + 1, 0, none⟩ = some (.slice none 0 0) ∧ w''.cell? ⟨V2.heap.size + 1, 1, none⟩ = some (.slice none 0 0) ∧ w''.frozen? ⟨V2.heap.size + 1, 0, none⟩ = false ∧ w''.frozen? ⟨V2.heap.size + 1, 1, none⟩ = false) := by
    have hbw : Below V2.heap.size V2 (((V2.alloc (.cells #[.int .u64 b.D.natAbs, .int .u64 va.natAbs] 117)).alloc (.cells #[.slice none 0 0, .slice none 0 0] 121)).alloc (.cells #[.int .u64 b.N.natAbs, .int .u64 vb.natAbs] 117)) := below3 _ _ _ _
    have h1 : Sl (((V2.alloc (.cells #[.int .u64 b.D.natAbs, .int .u64 va.natAbs] 117)).alloc (.cells #[.slice none 0 0, .slice none 0 0] 121)).alloc (.cells #[.int .u64 b.N.natAbs, .int .u64 vb.natAbs] 117)) 1 (.slice (some ⟨V2.heap.size + 1 + 1, 0, none⟩) 2 2) (u64s [b.N.natAbs, vb.natAbs]) := (Cel.at _ (V2.heap.size + 1 + 1) _ #[.int .u64 b.N.natAbs, .int .u64 vb.natAbs] (by simp)).sl (s := 1) rfl rfl (Nat.le_refl 2) (by decide)
    have h2 : Sl (((V2.alloc (.cells #[.int .u64 b.D.natAbs, .int .u64 va.natAbs] 117)).alloc (.cells #[.slice none 0 0, .slice none 0 0] 121)).alloc (.cells #[.int .u64 b.N.natAbs, .int .u64 vb.natAbs] 117)) 1 (.slice (some ⟨V2.heap.size, 0, none⟩) 2 2) (u64s [b.D.natAbs, va.natAbs]) := (((Cel.at _ (V2.heap.size) _ #[.int .u64 b.D.natAbs, .int .u64 va.natAbs] (by simp)).alloc _).alloc _).sl (s := 1) rfl rfl (Nat.le_refl 2) (by decide)
    have hx : Cel (((V2.alloc (.cells #[.int .u64 b.D.natAbs, .int .u64 va.natAbs] 117)).alloc (.cells #[.slice none 0 0, .slice none 0 0] 121)).alloc (.cells #[.int .u64 b.N.natAbs, .int .u64 vb.natAbs] 117)) (V2.heap.size + 1) 121 #[.slice none 0 0, .slice none 0 0] := ((Cel.at _ (V2.heap.size + 1) 121 #[.slice none 0 0, .slice none 0 0] (by simp)).alloc _)
    refine (own_pv b.N b.D va vb bN (by omega) bR.1 (by omega) bva.1 (by omega) bvb.1 (by omega) _ _ _ h1.drew h2.drew).mono ?_
    rintro e w'' ⟨r, rfl, hb', hp'⟩
    obtain ⟨A1, m1, i1, A2, m2, i2, rfl⟩ := hp'.shape
    exact ⟨A1, m1, i1, A2, m2, i2, rfl, below_then (below_drew hbw) hb', hp', celBelow hx (below_undrew hb'), box2 (celBelow hx (below_undrew hb'))⟩
  have HRXBA : Hid (Calls Tryd.prog 121 #[.agg #[.slice (some ⟨V2.heap.size + 1 + 1, 0, none⟩) 2 2, .slice (some ⟨V2.heap.size + 1, 0, none⟩) 2 2]] (((V2.alloc (.cells #[.slice none 0 0, .slice none 0 0] 121)).alloc (.cells #[.int .u64 b.D.natAbs, .int .u64 va.natAbs] 117)).alloc (.cells #[.int .u64 b.N.natAbs, .int .u64 vb.natAbs] 117)).drew fun e w'' => ∃ A1 m1 i1 A2 m2 i2, e = .returned (.agg #[.slice A1 m1 i1, .slice A2 m2 i2]) ∧ Below V2.heap.size V2 w'' ∧ Hid (PV w'' (.agg #[.slice A1 m1 i1, .slice A2 m2 i2]) (ownQ b.N b.D va vb) 2) ∧ Hid (Cel w'' (V2.heap.size) 121 #[.slice none 0 0, .slice none 0 0]) ∧ w''.cell? ⟨V2.heap.size, 0, none⟩ = some (.slice none 0 0) ∧ w''.cell? ⟨V2.heap.size, 1, none⟩ = some (.slice none 0 0) ∧ w''.frozen? ⟨V2.heap.size, 0, none⟩ = false ∧ w''.frozen? ⟨V2.heap.size, 1, none⟩ = false) := by
    have hbw : Below V2.heap.size V2 (((V2.alloc (.cells #[.slice none 0 0, .slice none 0 0] 121)).alloc (.cells #[.int .u64 b.D.natAbs, .int .u64 va.natAbs] 117)).alloc (.cells #[.int .u64 b.N.natAbs, .int .u64 vb.natAbs] 117)) := below3 _ _ _ _
    have h1 : Sl (((V2.alloc (.cells #[.slice none 0 0, .slice none 0 0] 121)).alloc (.cells #[.int .u64 b.D.natAbs, .int .u64 va.natAbs] 117)).alloc (.cells #[.int .u64 b.N.natAbs, .int .u64 vb.natAbs] 117)) 1 (.slice (some ⟨V2.heap.size + 1 + 1, 0, none⟩) 2 2) (u64s [b.N.natAbs, vb.natAbs]) := (Cel.at _ (V2.heap.size + 1 + 1) _ #[.int .u64 b.N.natAbs, .int .u64 vb.natAbs] (by simp)).sl (s := 1) rfl rfl (Nat.le_refl 2) (by decide)
    have h2 : Sl (((V2.alloc (.cells #[.slice none 0 0, .slice none 0 0] 121)).alloc (.cells #[.int .u64 b.D.natAbs, .int .u64 va.natAbs] 117)).alloc (.cells #[.int .u64 b.N.natAbs, .int .u64 vb.natAbs] 117)) 1 (.slice (some ⟨V2.heap.size + 1, 0, none⟩) 2 2) (u64s [b.D.natAbs, va.natAbs]) := ((Cel.at _ (V2.heap.size + 1) _ #[.int .u64 b.D.natAbs, .int .u64 va.natAbs] (by simp)).alloc _).sl (s := 1) rfl rfl (Nat.le_refl 2) (by decide)
    have hx : Cel (((V2.alloc (.cells #[.slice none 0 0, .slice none 0 0] 121)).alloc (.cells #[.int .u64 b.D.natAbs, .int .u64 va.natAbs] 117)).alloc (.cells #[.int .u64 b.N.natAbs, .int .u64 vb.natAbs] 117)) (V2.heap.size) 121 #[.slice none 0 0, .slice none 0 0] := (((Cel.at _ (V2.heap.size) 121 #[.slice none 0 0, .slice none 0 0] (by simp)).alloc _).alloc _)
    refine (own_pv b.N b.D va vb bN (by omega) bR.1 (by omega) bva.1 (by omega) bvb.1 (by omega) _ _ _ h1.drew h2.drew).mono ?_
    rintro e w'' ⟨r, rfl, hb', hp'⟩
    obtain ⟨A1, m1, i1, A2, m2, i2, rfl⟩ := hp'.shape
    exact ⟨A1, m1, i1, A2, m2, i2, rfl, below_then (below_drew hbw) hb', hp', celBelow hx (below_undrew hb'), box2 (celBelow hx (below_undrew hb'))⟩
  clear hbV2
  have HK2 : Hid (∀ w', Below V2.heap.size V2 w' → w'.cell? ⟨w.heap.size, 4, none⟩ = some (.int .i64 b.N) ∧ w'.cell? ⟨w.heap.size, 5, none⟩ = some (.int .i64 b.D)) := by
    intro w' hb'
    exact ⟨below_cell hb' n7, below_cell hb' n8⟩
  go_cut [13] (fun s13 wx => ∃ (Bx : Nat) (X1 : Option Addr) (m1 i1 : Nat) (X2 : Option Addr) (m2 i2 : Nat), s13 = .pointer (some ⟨Bx, 0, none⟩) ∧ Below V2.heap.size V2 wx ∧ V2.heap.size ≤ Bx ∧ Cel wx Bx 121 #[.slice X1 m1 i1, .slice X2 m2 i2] ∧ PV wx (.agg #[.slice X1 m1 i1, .slice X2 m2 i2]) (ownQ b.N b.D va vb) 2)
  case first =>
    as_aux_lemma =>
      clear HK HBK HW0 HW1 HB1 HB2 HB3 HBV2 HBL HG HO HWAY HF HII HJJ
      go_region_held3 (fun w' => w'.cell? ⟨w.heap.size, 4, none⟩ = some (.int .i64 b.N) ∧ w'.cell? ⟨w.heap.size, 5, none⟩ = some (.int .i64 b.D))
        (first | exact HK2.out _ (below_undrew (Below.refl _ _)) | exact HK2.out _ hbl4 | exact HK2.out _ (hbl4.alloc hbl4.size _) | exact HK2.out _ ((hbl4.setCell (by first | (simp; done) | (simp; omega)) _).setCell (by first | (simp; done) | (simp; omega)) _) | exact HK2.out _ (below_drew (below_alloc' _ _)) | exact HK2.out _ (below_drew (below2 _ _ _)) | exact HK2.out _ (below_drew (below3 _ _ _ _))) (first
        | (go_at_call_of 86 (Value.int IntKind.i64 b.N); refine (size_any _ _ (by omega) (by omega)).mono ?_; rintro e w4 ⟨rfl, rfl⟩)
        | (go_at_call_of 86 (Value.int IntKind.i64 vb); refine (size_any _ _ (by omega) (by omega)).mono ?_; rintro e w4 ⟨rfl, rfl⟩)
        | (go_at_call_of 86 (Value.int IntKind.i64 b.D); refine (size_any _ _ (by omega) (by omega)).mono ?_; rintro e w4 ⟨rfl, rfl⟩)
        | (go_at_call_of 86 (Value.int IntKind.i64 va); refine (size_any _ _ (by omega) (by omega)).mono ?_; rintro e w4 ⟨rfl, rfl⟩)
        | (go_at_call 121; with_reducible refine HRAB.out.mono ?_; rintro e w4 ⟨X1, m1, i1, X2, m2, i2, rfl, hbl4, HP4⟩)
        | (go_at_call 121; with_reducible refine HRBA.out.mono ?_; rintro e w4 ⟨X1, m1, i1, X2, m2, i2, rfl, hbl4, HP4⟩)
        | (go_at_call 121; with_reducible refine HRBAX.out.mono ?_; rintro e w4 ⟨X1, m1, i1, X2, m2, i2, rfl, hbl4, HP4, HY4, q0, q1, z0, z1⟩)
        | (go_at_call 121; with_reducible refine HRAXB.out.mono ?_; rintro e w4 ⟨X1, m1, i1, X2, m2, i2, rfl, hbl4, HP4, HY4, q0, q1, z0, z1⟩)
        | (go_at_call 121; with_reducible refine HRXAB.out.mono ?_; rintro e w4 ⟨X1, m1, i1, X2, m2, i2, rfl, hbl4, HP4, HY4, q0, q1, z0, z1⟩)
        | (go_at_call 121; with_reducible refine HRBXA.out.mono ?_; rintro e w4 ⟨X1, m1, i1, X2, m2, i2, rfl, hbl4, HP4, HY4, q0, q1, z0, z1⟩)
        | (go_at_call 121; with_reducible refine HRXBA.out.mono ?_; rintro e w4 ⟨X1, m1, i1, X2, m2, i2, rfl, hbl4, HP4, HY4, q0, q1, z0, z1⟩)
        | (go_at_call 121; with_reducible refine HRABX.out.mono ?_; rintro e w4 ⟨X1, m1, i1, X2, m2, i2, rfl, hbl4, HP4, HY4, q0, q1, z0, z1⟩))
      all_goals (
        go_wp2_with fail
        go_meet
        first
          | exact ⟨_, X1, m1, i1, X2, m2, i2, rfl, hbl4.alloc hbl4.size _, hbl4.size, Cel.new _ _ _, HP4.out.below (below_alloc' _ _)⟩
          | exact ⟨_, X1, m1, i1, X2, m2, i2, rfl, box_done hbl4 (by omega) HY4.out HP4.out _ _⟩)
  case rest =>
    clear HRAB HRBA HRABX HRBAX HRAXB HRXAB HRBXA HRXBA HK2 HK
    obtain ⟨Bx, X1, m1, i1, X2, m2, i2, rfl, hbx, hle, hyx, hpx⟩ := hcut
    have hwx := below_then HBV2.out hbx
    have HL := Lib.hid (HBL.out.below (below_then HW0.out hwx))
    have HY := Lib.hid hyx
    have HP := Lib.hid hpx
    have HW := Lib.hid (below_then HW0.out hwx)
    have hgl := HG.out.grp
    have hfl := HG.out.fac
    obtain ⟨Ag, cg, hgv, hgc, hgm, hgs⟩ := own_slice HL.out.grp
    obtain ⟨gb, rfl, hgb, hgb2⟩ := hgs (by omega)
    have hcell : ∀ k, k < st.ls.length → wc.cell? ⟨gb, k, none⟩ = some (.int .i64 (grpAt st k : Nat)) := by
      intro k hk
      have hk' : k < st.grp.length := by omega
      have hown := HL.out.grp
      rw [hgv] at hown
      have := hown.cells (g := gb) rfl k (.int .i64 (grpAt st k : Nat)) (by rw [grpAt_get st hk']; simp [grpV, hk'])
      rwa [add_plain, Nat.zero_add] at this
    obtain ⟨ag, hag⟩ : ∃ ag, (⟨gb, 0, none⟩ : Addr) = ag := ⟨_, rfl⟩
    have hadd : ∀ k, ag.add k = ⟨gb, k, none⟩ := by intro k; rw [← hag, add_plain, Nat.zero_add]
    have e5 := HL.out.blk.cell 2 _ rfl
    rw [hgv, hag] at e5
    have e6 := hcell i hi
    have e7 := hcell j hj
    rw [← hadd, hgi] at e6
    rw [← hadd, hgj] at e7
    have Hgv := Lib.hid hgv
    have HAG := Lib.hid hag
    have HGI := Lib.hid hgi
    have HGJ := Lib.hid hgj
    have Hadd := Lib.hid hadd
    have hB0 := HY.out.cell 0 (.slice X1 m1 i1) rfl
    have hB1 := HY.out.cell 1 (.slice X2 m2 i2) rfl
    have HLim := Lib.hid (fun k => St.lim_le (st := st) (by rw [hgl]; exact HG.out.few) k)
    clear hgv hcell hag hadd hgs hbx hle hyx hpx hwx HBV2 HBK hgi hgj
    have hgg := HGQ.out
    have hF := HF.out
    rw [if_neg hgg] at hF
    injection hF with hF1 hF2
    have HF1 := Lib.hid hF1
    have HF2 := Lib.hid hF2
    have HGG := Lib.hid hgg
    have b1 : ((gi : Int) == (gj : Int)) = false := beq_eq_false_iff_ne.2 (by omega)
    clear hF1 hF2 hgg
    go_wp2
    go_quiet (fail)
    go_wp2
    obtain ⟨V3, hV3⟩ : ∃ V3, wc.drewN nq = V3 := ⟨_, rfl⟩
    have hbv : Below wc.heap.size wc V3 := by rw [← hV3]; exact below_drewN' wc nq
    rw [hV3]
    have HBV := Lib.hid hbv
    clear hV3 hbv e5 e6 e7 hB0 hB1 b1
    have HL3 := Lib.hid (HL.out.below HBV.out)
    obtain ⟨Af, cf, hfv, hfc, hfm, hfk⟩ := FacV.open (BookL.view_fac HL3.out)
    obtain ⟨fb, fo, a1, a2, rfl, hfb, f1, f2, hpi⟩ := hfk i (by omega)
    obtain ⟨fb', fo', a3, a4, hf', _, f3, f4, hpj⟩ := hfk j (by omega)
    cases hf'
    rw [← facAt_get st (by omega)] at hpi hpj
    obtain ⟨A1, u1, v1, A2, u2, v2, hsh⟩ := hpi.shape
    injection hsh with hsh
    have hsh' : a1 = .slice A1 u1 v1 ∧ a2 = .slice A2 u2 v2 := by simpa using congrArg Array.toList hsh
    obtain ⟨rfl, rfl⟩ := hsh'
    obtain ⟨A3, u3, v3, A4, u4, v4, hsh2⟩ := hpj.shape
    injection hsh2 with hsh2
    have hsh' : a3 = .slice A3 u3 v3 ∧ a4 = .slice A4 u4 v4 := by simpa using congrArg Array.toList hsh2
    obtain ⟨rfl, rfl⟩ := hsh'
    have f0 := HL3.out.blk.cell 3 _ rfl
    rw [hfv, hfl] at f0
    have HY3 := HY.out.below HY.out.lt HBV.out
    have f5 := HY3.cell 0 (.slice X1 m1 i1) rfl
    have f6 := HY3.cell 1 (.slice X2 m2 i2) rfl
    have HPI := Lib.hid hpi
    have HPJ := Lib.hid hpj
    have HPX := Lib.hid (HP.out.below HBV.out)
    have Hfv := Lib.hid hfv
    have HFB := Lib.hid hfb
    clear hfv hfk hpi hpj HY3 hsh hsh2 hfb hfc hfm
    have HLI := Lib.hid (HLim.out i)
    have HLJ := Lib.hid (HLim.out j)
    have HL2 := Lib.hid (show st.lim i + 2 ≤ 17592186044415 by have := HLI.out; omega)
    have HL2b := Lib.hid (show st.lim i + 2 + st.lim j ≤ 17592186044415 by have := HLI.out; have := HLJ.out; omega)
    have HK3 : Hid (∀ w', Below V3.heap.size V3 w' → w'.cell? ⟨Bk, 3, none⟩ = some (.slice (some ⟨fb, fo, none⟩) st.ls.length cf) ∧ w'.cell? ⟨fb, fo + i * 2, none⟩ = some (.slice A1 u1 v1) ∧ w'.cell? ⟨fb, fo + i * 2 + 1, none⟩ = some (.slice A2 u2 v2) ∧ w'.cell? ⟨fb, fo + j * 2, none⟩ = some (.slice A3 u3 v3) ∧ w'.cell? ⟨fb, fo + j * 2 + 1, none⟩ = some (.slice A4 u4 v4) ∧ w'.cell? ⟨Bx, 0, none⟩ = some (.slice X1 m1 i1) ∧ w'.cell? ⟨Bx, 1, none⟩ = some (.slice X2 m2 i2)) := by
      intro w' hb'
      exact ⟨below_cell hb' f0, below_cell hb' f1, below_cell hb' f2, below_cell hb' f3, below_cell hb' f4, below_cell hb' f5, below_cell hb' f6⟩
    go_cut [14] (fun s14 wx => ∃ (Bw : Nat) (Y1 : Option Addr) (n1 d1 : Nat) (Y2 : Option Addr) (n2 d2 : Nat), s14 = .pointer (some ⟨Bw, 0, none⟩) ∧ Below V3.heap.size V3 wx ∧ V3.heap.size ≤ Bw ∧ Cel wx Bw 121 #[.slice Y1 n1 d1, .slice Y2 n2 d2] ∧ PV wx (.agg #[.slice Y1 n1 d1, .slice Y2 n2 d2]) ((facAt st i)⁻¹ * ownQ b.N b.D va vb * facAt st j) (st.lim i + 2 + st.lim j))
    case first =>
      go_region_held3 (fun w' => w'.cell? ⟨Bk, 3, none⟩ = some (.slice (some ⟨fb, fo, none⟩) st.ls.length cf) ∧ w'.cell? ⟨fb, fo + i * 2, none⟩ = some (.slice A1 u1 v1) ∧ w'.cell? ⟨fb, fo + i * 2 + 1, none⟩ = some (.slice A2 u2 v2) ∧ w'.cell? ⟨fb, fo + j * 2, none⟩ = some (.slice A3 u3 v3) ∧ w'.cell? ⟨fb, fo + j * 2 + 1, none⟩ = some (.slice A4 u4 v4) ∧ w'.cell? ⟨Bx, 0, none⟩ = some (.slice X1 m1 i1) ∧ w'.cell? ⟨Bx, 1, none⟩ = some (.slice X2 m2 i2))
        (first | exact HK3.out _ (below_undrew (Below.refl _ _)) | exact HK3.out _ (below_drew (below_alloc' _ _)) | exact HK3.out _ hbl7 | exact HK3.out _ (hbl7.alloc hbl7.size _) | exact HK3.out _ (box_done hbl7 HZl.out HZ7.out HP7.out _ _).1 | exact HK3.out _ hbl6 | exact HK3.out _ (hbl6.alloc hbl6.size _) | exact HK3.out _ hbl5 | exact HK3.out _ (hbl5.alloc hbl5.size _)) (first
        | (go_at_call 104; (with_reducible refine (times_pv _ _ _ _ _ _ _ HP6.out (HPJ.out.below hbl6) HL2b.out).mono ?_); rintro e w7 ⟨r7, rfl, hb7, hp7⟩; have hbl7 : Below V3.heap.size V3 w7 := below_then hbl6 hb7; have HP7 := Lib.hid hp7; obtain ⟨U1, n7, d7, U2, n8, d8, rfl⟩ := hp7.shape; have HZ7 := Lib.hid (celBelow HZ6.out hb7); obtain ⟨q0, q1, z0, z1⟩ := box2 HZ7.out)
        | (go_at_call 104; (with_reducible refine (times_pv _ _ _ _ _ _ _ HP6.out (HPJ.out.below hbl6) HL2b.out).mono ?_); rintro e w7 ⟨r7, rfl, hb7, hp7⟩; have hbl7 : Below V3.heap.size V3 w7 := below_then hbl6 hb7; have HP7 := Lib.hid hp7; obtain ⟨U1, n7, d7, U2, n8, d8, rfl⟩ := hp7.shape)
        | (go_at_call 104; (with_reducible refine (times_pv _ _ _ _ _ _ _ (HP6.out.below (below_alloc' _ _)) (HPJ.out.below (hbl6.alloc hbl6.size _)) HL2b.out).mono ?_); rintro e w7 ⟨r7, rfl, hb7, hp7⟩; have hbl7 : Below V3.heap.size V3 w7 := below_then (hbl6.alloc hbl6.size _) hb7; have HP7 := Lib.hid hp7; obtain ⟨U1, n7, d7, U2, n8, d8, rfl⟩ := hp7.shape; have HZ7 := Lib.hid (celBelow (Cel.new _ _ _) hb7); have HZl := Lib.hid hbl6.size; obtain ⟨q0, q1, z0, z1⟩ := box2 HZ7.out)
        | (go_at_call 104; (with_reducible refine (times_pv _ _ _ _ _ _ _ HP5.out (HPX.out.below hbl5) HL2.out).mono ?_); rintro e w6 ⟨r6, rfl, hb6, hp6⟩; have hbl6 : Below V3.heap.size V3 w6 := below_then hbl5 hb6; have HP6 := Lib.hid hp6; obtain ⟨Z1, n5, d5, Z2, n6, d6, rfl⟩ := hp6.shape; have HZ6 := Lib.hid (celBelow HZ5.out hb6))
        | (go_at_call 104; (with_reducible refine (times_pv _ _ _ _ _ _ _ HP5.out (HPX.out.below hbl5) HL2.out).mono ?_); rintro e w6 ⟨r6, rfl, hb6, hp6⟩; have hbl6 : Below V3.heap.size V3 w6 := below_then hbl5 hb6; have HP6 := Lib.hid hp6; obtain ⟨Z1, n5, d5, Z2, n6, d6, rfl⟩ := hp6.shape)
        | (go_at_call 104; (with_reducible refine (times_pv _ _ _ _ _ _ _ (HP5.out.below (below_alloc' _ _)) (HPX.out.below (hbl5.alloc hbl5.size _)) HL2.out).mono ?_); rintro e w6 ⟨r6, rfl, hb6, hp6⟩; have hbl6 : Below V3.heap.size V3 w6 := below_then (hbl5.alloc hbl5.size _) hb6; have HP6 := Lib.hid hp6; obtain ⟨Z1, n5, d5, Z2, n6, d6, rfl⟩ := hp6.shape; have HZ6 := Lib.hid (celBelow (Cel.new _ _ _) hb6); have HZl := Lib.hid hbl5.size)
        | (go_at_call 125; (with_reducible refine (turned_pv _ _ _ _ (HPI.out.below (below_drew (Below.refl _ _)))).mono ?_); rintro e w5 ⟨r5, rfl, hb5, hp5⟩; have hbl5 : Below V3.heap.size V3 w5 := below_undrew hb5; have HP5 := Lib.hid hp5; obtain ⟨T1, n3, d3, T2, n4, d4, rfl⟩ := hp5.shape)
        | (go_at_call 125; (with_reducible refine (turned_pv _ _ _ _ (HPI.out.below (below_drew (below_alloc' _ _)))).mono ?_); rintro e w5 ⟨r5, rfl, hb5, hp5⟩; have hbl5 : Below V3.heap.size V3 w5 := below_then (below_drew (below_alloc' _ _)) hb5; have HP5 := Lib.hid hp5; obtain ⟨T1, n3, d3, T2, n4, d4, rfl⟩ := hp5.shape; have HZ5 := Lib.hid (celBelow (Cel.new _ _ _) (below_undrew hb5)); have HZl := Lib.hid (Nat.le_refl V3.heap.size)))
      all_goals (
        go_wp2_with fail
        go_meet
        first
          | exact ⟨_, U1, n7, d7, U2, n8, d8, rfl, box_done hbl7 HZl.out HZ7.out HP7.out _ _⟩
          | exact ⟨_, U1, n7, d7, U2, n8, d8, rfl, hbl7.alloc hbl7.size _, hbl7.size, Cel.new _ _ _, HP7.out.below (below_alloc' _ _)⟩)
    case rest =>
      obtain ⟨Bw, Y1, n1, d1, Y2, n2, d2, rfl, hbw, hwle, hyw, hpw⟩ := hcut
      have hw4 := below_then HW.out (below_then HBV.out hbw)
      have HL4 := Lib.hid (HBL.out.below hw4)
      have HB4 := Lib.hid (hw4.mono hbase)
      have HNE := Lib.hid (show fb ≠ Bw by have := HFB.out; omega)
      obtain ⟨Af', cf', hfv', _, _, hfs⟩ := own_slice (HL4.out.fac.choose_spec.1)
      obtain ⟨fb', rfl, hfb, hfb2⟩ := hfs (by omega)
      have hfe := Hfv.out.symm.trans hfv'
      injection hfe with hfe1 hfe2 hfe3
      injection hfe1 with hfe1
      injection hfe1 with hfe4 hfe5
      subst hfe4
      subst hfe3
      have HFO := Lib.hid hfe5
      have HFV := Lib.hid hfv'
      clear hfv' hfs hfb hfb2 hfe2 hfe5
      have hgL : BookL wc base Bk bm lv (.slice (some ⟨gb, 0, none⟩) st.ls.length cg) fv st.ls st.grp st.fac st.lim := by rw [← Hgv.out]; exact HL4.out
      obtain ⟨e6, _⟩ := hgL.grpCell rfl (k := i) (by omega)
      have e5 := hgL.blk.cell 2 _ rfl
      rw [HAG.out] at e5
      rw [← Hadd.out, ← grpAt_get st (by omega), HGI.out] at e6
      clear hgL f0 f1 f2 f3 f4 f5 f6 HL3 HK3 HPI HPJ HPX HL2 HL2b
      have hW0 : Hid (Below base w wc) := HB4
      go_wp2
      go_loopw [151] (fun t151 w2 => ∃ k : Nat, t151 = .int .i64 k ∧ k ≤ st.ls.length ∧ BookL w2 base Bk bm lv gv fv st.ls (brGrp st b k) (brFac st b k) (brLim st b k) ∧ Cel w2 Bw 121 #[.slice Y1 n1 d1, .slice Y2 n2 d2] ∧ PV w2 (.agg #[.slice Y1 n1 d1, .slice Y2 n2 d2]) (brWay st b) (st.lim i + 2 + st.lim j) ∧ Below base w w2)
        (fun t151 _ => st.ls.length - (intOf t151).toNat)
      case atStart => exact ⟨0, rfl, by omega, by rw [brGrp_zero, brFac_zero]; exact HL4.out.mono (fun k _ => by rw [brLim_zero]; exact Nat.le_refl _), hyw, by rw [HWAY.out]; exact hpw, HB4.out⟩
      case round =>
        obtain ⟨k, rfl, hk, hL, hy, hp, hB⟩ := hrel
        clear hyw hpw hbw hw4 e5 e6 hwle
        have HL5 := Lib.hid hL
        have HY5 := Lib.hid hy
        have HP5 := Lib.hid hp
        have HB5 := Lib.hid hB
        clear hL hy hp hB
        by_cases hlt : k < st.ls.length
        · have dd : decide ((k : Int) < (st.ls.length : Int)) = true := decide_eq_true (by omega)
          have hk3 : IntKind.i64.wrap ((k : Int) + 1) = ((k + 1 : Nat) : Int) := by rw [Int.natCast_add]; exact IntWalk.i64_in _ (by omega)
          have hgL : BookL wr base Bk bm lv (.slice (some ⟨gb, 0, none⟩) st.ls.length cg) fv st.ls (brGrp st b k) (brFac st b k) (brLim st b k) := by rw [← Hgv.out]; exact HL5.out
          have HGL := Lib.hid hgL
          obtain ⟨e6, z6⟩ := hgL.grpCell rfl (k := k) (by rw [brGrp_length]; omega)
          have e5 := hgL.blk.cell 2 _ rfl
          rw [brGrp_at st b k k (by omega) (.inl (Nat.le_refl _)), ← Hadd.out] at e6
          rw [← Hadd.out] at z6
          rw [HAG.out] at e5
          clear hgL
          obtain ⟨gk, hgk⟩ : ∃ gk, grpAt st k = gk := ⟨_, rfl⟩
          rw [hgk] at e6
          have HGK := Lib.hid hgk
          clear hgk
          by_cases hge : gk = gi
          · have b2 : ((gk : Int) == (gi : Int)) = true := by simp [hge]
            have HGE := Lib.hid hge
            have hnj : grpAt st j ≠ grpAt st (brI st b) := by rw [HGJ.out, show brI st b = i from HII.out, HGI.out]; exact fun e => HGG.out e.symm
            have e7 := (HGL.out.grpCell rfl (k := j) (by rw [brGrp_length]; omega)).1
            rw [brGrp_at st b k j (by omega) (.inr hnj), ← Hadd.out, HGJ.out] at e7
            clear hge hnj
            go_wp2
            go_region
            obtain ⟨V5, hV5⟩ : ∃ V5, (wr.setCell (ag.add k) (.int .i64 (gj : Int))).drew = V5 := ⟨_, rfl⟩
            have hgb : base ≤ gb := by
              obtain ⟨_, _, e, _, _, h⟩ := own_slice HGL.out.grp
              cases e
              obtain ⟨_, e, h, _⟩ := h (by omega)
              cases e; exact h
            have hk5 : BookL V5 base Bk bm lv (.slice (some ⟨gb, 0, none⟩) st.ls.length cg) fv st.ls ((brGrp st b k).set k gj) (brFac st b k) (brLim st b k) := by
              rw [← hV5, Hadd.out]
              exact (HGL.out.setGrp rfl k gj (by rw [brGrp_length]; omega)).below (below_drew (Below.refl _ _))
            have e6' : wr.cell? ⟨gb, k, none⟩ = some (.int .i64 (gi : Nat)) := by rw [← Hadd.out]; rw [HGE.out] at e6; exact e6
            have hy5 : Cel V5 Bw 121 #[.slice Y1 n1 d1, .slice Y2 n2 d2] := by
              obtain ⟨_, C, hC⟩ := own_block HGL.out.grp
              rw [← hV5, Hadd.out]
              exact (HY5.out.otherT (p := ⟨gb, k, none⟩) hC (by decide) _).below (HY5.out.otherT (p := ⟨gb, k, none⟩) hC (by decide) (.int .i64 (gj : Int))).lt (below_drew (Below.refl _ _))
            have hp5 : PV V5 (.agg #[.slice Y1 n1 d1, .slice Y2 n2 d2]) (brWay st b) (st.lim i + 2 + st.lim j) := by
              rw [← hV5, Hadd.out]
              exact (HP5.out.setOther e6' (fun m e => by cases e) _).drew
            have hb5 : Below base w V5 := by
              rw [← hV5, Hadd.out]
              exact below_drew (HB5.out.setCell (p := ⟨gb, k, none⟩) hgb _)
            have hk5' : BookL V5 base Bk bm lv (.slice (some ⟨gb, 0, none⟩) st.ls.length cg) (.slice (some ⟨fb, 0, none⟩) st.ls.length cf) st.ls ((brGrp st b k).set k gj) (brFac st b k) (brLim st b k) := by rw [← HFV.out]; exact hk5
            obtain ⟨A5, n5, c5, A6, n6, c6, g0, g1, gp, gz0, gz1⟩ := hk5'.facCell rfl (k := k) (by rw [brFac_length]; omega)
            rw [brFac_at st b k (by omega)] at gp
            have g2 := hk5'.blk.cell 3 _ rfl
            have hfo : fo = 0 := HFO.out
            rw [← Nat.zero_add (k * 2), ← hfo] at g0 g1 gz0 gz1
            rw [show (⟨fb, 0, none⟩ : Addr) = ⟨fb, fo, none⟩ by rw [hfo]] at g2
            have g3 := hy5.cell 0 (.slice Y1 n1 d1) rfl
            have g4 := hy5.cell 1 (.slice Y2 n2 d2) rfl
            have hfz : ∀ w', Below V5.heap.size V5 w' → w'.frozen? ⟨fb, fo + k * 2, none⟩ = false ∧ w'.frozen? ⟨fb, fo + k * 2 + 1, none⟩ = false := by
              intro w' hb'
              obtain ⟨_, _, _, _, _, _, _, _, _, h1, h2⟩ := (hk5'.below hb').facCell rfl (k := k) (by rw [brFac_length]; omega)
              rw [hfo, Nat.zero_add]
              exact ⟨h1, h2⟩
            have HK6 : Hid (∀ w', Below V5.heap.size V5 w' → w'.cell? ⟨Bk, 3, none⟩ = some (.slice (some ⟨fb, fo, none⟩) st.ls.length cf) ∧ w'.cell? ⟨fb, fo + k * 2, none⟩ = some (.slice A5 n5 c5) ∧ w'.cell? ⟨fb, fo + k * 2 + 1, none⟩ = some (.slice A6 n6 c6) ∧ w'.cell? ⟨Bw, 0, none⟩ = some (.slice Y1 n1 d1) ∧ w'.cell? ⟨Bw, 1, none⟩ = some (.slice Y2 n2 d2) ∧ w'.frozen? ⟨fb, fo + k * 2, none⟩ = false ∧ w'.frozen? ⟨fb, fo + k * 2 + 1, none⟩ = false) := by
              intro w' hb'
              exact ⟨below_cell hb' g2, below_cell hb' g0, below_cell hb' g1, below_cell hb' g3, below_cell hb' g4, hfz w' hb'⟩
            have HGP := Lib.hid gp
            have HY6 := Lib.hid hy5
            have HP6 := Lib.hid hp5
            have HB6 := Lib.hid hb5
            have HL6 := Lib.hid hk5'
            have HLS := Lib.hid (show brLim st b k k + (st.lim i + 2 + st.lim j) ≤ 17592186044415 by
              have h1 := HLim.out i; have h2 := HLim.out j; have h3 := HLim.out k
              rw [(brLim_at st b k (by rw [HGK.out, HGE.out, show brI st b = i from HII.out, HGI.out])).2]; omega)
            have hkk : grpAt st k = grpAt st (brI st b) := by rw [HGK.out, HGE.out, show brI st b = i from HII.out, HGI.out]
            have hjj' : grpAt st (brJ st b) = gj := by rw [show brJ st b = j from HJJ.out, HGJ.out]
            have HFIN : Hid (∀ (w6 : World) (U1 : Option Addr) (n7 d7 : Nat) (U2 : Option Addr) (n8 d8 : Nat), Below V5.heap.size V5 w6 → PV w6 (.agg #[.slice U1 n7 d7, .slice U2 n8 d8]) (facAt st k * brWay st b) (brLim st b k k + (st.lim i + 2 + st.lim j)) →
                BookL ((w6.setCell ⟨fb, fo + k * 2, none⟩ (.slice U1 n7 d7)).setCell ⟨fb, fo + k * 2 + 1, none⟩ (.slice U2 n8 d8)) base Bk bm lv gv fv st.ls (brGrp st b (k + 1)) (brFac st b (k + 1)) (brLim st b (k + 1)) ∧
                Cel ((w6.setCell ⟨fb, fo + k * 2, none⟩ (.slice U1 n7 d7)).setCell ⟨fb, fo + k * 2 + 1, none⟩ (.slice U2 n8 d8)) Bw 121 #[.slice Y1 n1 d1, .slice Y2 n2 d2] ∧
                PV ((w6.setCell ⟨fb, fo + k * 2, none⟩ (.slice U1 n7 d7)).setCell ⟨fb, fo + k * 2 + 1, none⟩ (.slice U2 n8 d8)) (.agg #[.slice Y1 n1 d1, .slice Y2 n2 d2]) (brWay st b) (st.lim i + 2 + st.lim j) ∧
                Below base w ((w6.setCell ⟨fb, fo + k * 2, none⟩ (.slice U1 n7 d7)).setCell ⟨fb, fo + k * 2 + 1, none⟩ (.slice U2 n8 d8))) := by
              intro w6 U1 n7 d7 U2 n8 d8 hb' hp'
              rw [hfo, Nat.zero_add]
              have hL6 := hk5'.below hb'
              have hS := hL6.setFac rfl k (by rw [brFac_length]; omega) (lim' := brLim st b (k + 1)) hp' (by
                obtain ⟨l1, l2⟩ := brLim_at st b k hkk
                rw [l1, l2, show brI st b = i from HII.out, show brJ st b = j from HJJ.out]; exact Nat.le_refl _) (fun n hn => by rw [brLim_other st b k n hn]; exact Nat.le_refl _)
              rw [← hjj', brGrp_step st b k hkk, brFac_step st b k hkk] at hS
              obtain ⟨A7, n9, c7, A8, n10, c8, k0, k1, _, _, _⟩ := hL6.facCell rfl (k := k) (by rw [brFac_length]; omega)
              have k1' : (w6.setCell ⟨fb, k * 2, none⟩ (.slice U1 n7 d7)).cell? ⟨fb, k * 2 + 1, none⟩ = some (.slice A8 n10 c8) := by
                rw [World.cell?_setCell_other]
                · exact k1
                · intro e; injection e with _ e; omega
              have hbf : base ≤ fb := by
                obtain ⟨_, _, e, _, _, h⟩ := own_slice (hk5'.fac.choose_spec.1)
                cases e
                obtain ⟨_, e, h, _⟩ := h (by omega)
                cases e; exact h
              have hbw6 : Below base w w6 := hb5.trans (hb'.mono (Nat.le_trans hbase hb5.size))
              refine ⟨?_, ((hy5.below hy5.lt hb').other HNE.out _).other HNE.out _, ((hp5.below hb').setOther k0 (fun m e => by cases e) _).setOther k1' (fun m e => by cases e) _, (hbw6.setCell (p := ⟨fb, k * 2, none⟩) hbf _).setCell (p := ⟨fb, k * 2 + 1, none⟩) hbf _⟩
              rw [Hgv.out, HFV.out]
              exact hS
            rw [hV5]
            clear hkk hjj'
            clear hV5 hk5 hk5' hy5 hp5 hb5 gp hfz hfo e6' hgb e5 e6 e7 z6 gz0 gz1
            obtain ⟨r0, r1, r2, r3, r4, r5, r6⟩ := HK6.out V5.drew (below_drew (Below.refl _ _))
            go_wp2
            go_region_with (first
              | (go_at_call 104; refine (times_pv _ _ _ _ _ _ _ HGP.out.drew HP6.out.drew HLS.out).mono ?_; rintro e w6 ⟨r7, rfl, hb7, hp7⟩; have hbl7 : Below V5.heap.size V5 w6 := below_undrew hb7; obtain ⟨U1, n7, d7, U2, n8, d8, rfl⟩ := hp7.shape; have HP7 := Lib.hid hp7; clear hp7; obtain ⟨t0, t1, t2, t3, t4, t5, t6⟩ := HK6.out _ hbl7))
            all_goals (
              go_wp2
              go_roundw
              case rel =>
                obtain ⟨x1, x2, x3, x4⟩ := HFIN.out _ _ _ _ _ _ _ hbl7 HP7.out
                exact ⟨k + 1, rfl, hlt, x1, x2, x3, x4⟩
              case measure => simp [intOf]; omega)
          · have b2 : ((gk : Int) == (gi : Int)) = false := beq_eq_false_iff_ne.2 (by omega)
            have HGE := Lib.hid hge
            clear hge
            go_wp2
            go_roundw
            case rel =>
              have hne : grpAt st k ≠ grpAt st (brI st b) := by rw [HGK.out, show brI st b = i from HII.out, HGI.out]; exact HGE.out
              refine ⟨k + 1, rfl, hlt, ?_, HY5.out, HP5.out, HB5.out⟩
              rw [brGrp_skip st b k hne, brFac_skip st b k hne]
              exact HL5.out.mono (fun n _ => by rw [brLim_skip st b k n hne]; exact Nat.le_refl _)
            case measure => simp [intOf]; omega
        · have hkn : k = st.ls.length := by omega
          have dd : decide ((k : Int) < (st.ls.length : Int)) = false := decide_eq_false (by omega)
          have HKN := Lib.hid hkn
          clear hkn
          go_wp2
          go_ret
          refine ⟨by rw [HF1.out] <;> rfl, HB5.out, ?_⟩
          rw [← HF2.out]
          have hL := HL5.out
          rw [HKN.out] at hL
          exact BookL.toO (st := { st with grp := brGrp st b st.ls.length, fac := brFac st b st.ls.length }) hL (fun n hn => brLim_le st b HG.out (by rw [show brI st b = i from HII.out]; exact hi) (by rw [show brJ st b = j from HJJ.out]; exact hj) (by rw [show brI st b = i from HII.out, show brJ st b = j from HJJ.out, HGI.out, HGJ.out]; exact HGG.out) n (by rw [brFac_length] at hn; exact hn))
end
end Go.Proofs.YtmibpncmebhbjaaDoor
