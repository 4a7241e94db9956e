/- bridge, the values found: the same group. -/
import Derived.Test.YtmibpncmebhbjaaDoorP6
namespace Go.Proofs.YtmibpncmebhbjaaDoor
section
open Go Go.RowKit Go.Shelf
attribute [local go_sem] rrV

set_option maxRecDepth 100000 in
set_option maxHeartbeats 20000000 in
theorem bridge_same (base Bk bm : Nat) (lv gv fv : Value) (st : St) (b : Br) (w : World) (hb : BookO w base Bk bm lv gv fv st) (hg : Good st) (hbase : base ≤ w.heap.size) (he : firstF [idxE st.ls b.A, idxE st.ls b.B] = 0)
    (i j : Nat) (hii : idxI st.ls b.A = i) (hjj : idxI st.ls b.B = j) (ni nj : ByteArray) (ui uj : List Un) (hli : ladOf st i = (ni, ui)) (hlj : ladOf st j = (nj, uj))
    (va vb : Int) (hva : valueF ni ui b.SA = (va, 0)) (hvb : valueF nj uj b.SB = (vb, 0)) (hr : isR b.N b.D = true) (hp : decide (0 < b.N) = true) (gi gj : Nat) (hgi : grpAt st i = gi) (hgj : grpAt st j = gj)
    (q : Int) (st' : St) (hF : (if gi = gj then (needF (decide (facAt st i * (facAt st j)⁻¹ * (ownQ b.N b.D va vb)⁻¹ = 1)) 12, st) else (0, { st with grp := brGrp st b st.ls.length, fac := brFac st b st.ls.length })) = (q, st')) (hgg : gi = gj) :
    Calls Tryd.prog 99 #[.pointer (some ⟨Bk, 0, none⟩), .agg #[.string b.A, .string b.SA, .string b.B, .string b.SB, .int .i64 b.N, .int .i64 b.D]] w fun e w' => e = .returned (.int .i64 q) ∧ Below base w w' ∧ BookO w' base Bk bm lv gv fv st' := by
  have bva := valueF_pos hva
  have bvb := valueF_pos hvb
  have bR := isR_bd hr
  have bN : 1 ≤ b.N := by have := of_decide_eq_true hp; omega
  obtain ⟨hea, heb⟩ := firstF2_zero he
  have hi := idxI_lt hea
  have hj := idxI_lt heb
  have Y := Cel.new w 83 #[.string b.A, .string b.SA, .string b.B, .string b.SB, .int .i64 b.N, .int .i64 b.D]
  have hw0 := below_alloc' w (.cells #[.string b.A, .string b.SA, .string b.B, .string b.SB, .int .i64 b.N, .int .i64 b.D] 83)
  obtain ⟨W, hW⟩ : ∃ W, w.alloc (.cells #[.string b.A, .string b.SA, .string b.B, .string b.SB, .int .i64 b.N, .int .i64 b.D] 83) = W := ⟨_, rfl⟩
  rw [hW] at Y hw0
  have hv := hb.view.below hw0
  have HI1 := Lib.hid (index_any Bk bm lv gv fv st.ls b.A W hv.blk hv.place)
  have HI2 := Lib.hid (index_any Bk bm lv gv fv st.ls b.B W hv.blk hv.place)
  have H3 : Hid (∀ w : World, Calls Tryd.prog 102 #[.slice (some ⟨w.heap.size, 0, none⟩) 2 2] (w.alloc (.cells #[.int .i64 0, .int .i64 0] 24)) fun e w' => e = .returned (.int .i64 0) ∧ w.alloc (.cells #[.int .i64 0, .int .i64 0] 24) = w') := fun w => first2_any _ _ _ w rfl
  obtain ⟨bl, ol, Ai, ci, cl, hlv, hbl, e0, e1, hsi, hni⟩ := hv.lad hi
  obtain ⟨bl', ol', Aj, cj, cl', hlv', _, e2, e3, hsj, hnj⟩ := hv.lad hj
  rw [hlv] at hlv'
  cases hlv'
  rw [hii] at HI1 hi e0 e1 hsi hni
  rw [hjj] at HI2 hj e2 e3 hsj hnj
  rw [hli] at e0 e1 hsi hni
  rw [hlj] at e2 e3 hsj hnj
  rw [hea] at HI1
  rw [heb] at HI2
  have HV1 : Hid (∀ w', Below W.heap.size W w' → Calls Tryd.prog 29 #[.agg #[.string ni, .slice Ai ui.length ci], .string b.SA] w' fun e w'' => e = .returned (.tuple #[.int .i64 va, .int .i64 0]) ∧ Below w'.heap.size w' w'') := by
    intro w' hb'
    have := value_any ni hni (.agg #[.string ni, .slice Ai ui.length ci]) ui b.SA w' ⟨_, _, _, rfl, hsi.below hb'⟩
    rwa [hva] at this
  have HV2 : Hid (∀ w', Below W.heap.size W w' → Calls Tryd.prog 29 #[.agg #[.string nj, .slice Aj uj.length cj], .string b.SB] w' fun e w'' => e = .returned (.tuple #[.int .i64 vb, .int .i64 0]) ∧ Below w'.heap.size w' w'') := by
    intro w' hb'
    have := value_any nj hnj (.agg #[.string nj, .slice Aj uj.length cj]) uj b.SB w' ⟨_, _, _, rfl, hsj.below hb'⟩
    rwa [hvb] at this
  have HRR : Hid (∀ w', Calls Tryd.prog 23 #[.agg #[.int .i64 b.N, .int .i64 b.D]] w' fun e w'' => e = .returned (.bool true) ∧ Below w'.heap.size w' w'') := by
    intro w'
    have := isRatio_any b.N b.D w' b.hN.1 b.hN.2 b.hD.1 b.hD.2
    rwa [hr] at this
  have a0 := Y.cell 0 (.string b.A) rfl
  have a1 := Y.cell 1 (.string b.SA) rfl
  have a2 := Y.cell 2 (.string b.B) rfl
  have a3 := Y.cell 3 (.string b.SB) rfl
  have a4 := Y.cell 4 (.int .i64 b.N) rfl
  have a5 := Y.cell 5 (.int .i64 b.D) rfl
  have hW1 := below_alloc' W (.cells #[.int .i64 0, .int .i64 0] 24)
  have hlvc := hv.blk.cell 0 _ rfl
  rw [hlv] at hlvc
  have HK : Hid (∀ w', Below W.heap.size W w' → w'.cell? ⟨Bk, 0, none⟩ = some (.slice (some ⟨bl, ol, none⟩) st.ls.length cl) ∧ w'.cell? ⟨bl, ol + i * 2, none⟩ = some (.string ni) ∧ w'.cell? ⟨bl, ol + i * 2 + 1, none⟩ = some (.slice Ai ui.length ci) ∧
      w'.cell? ⟨bl, ol + j * 2, none⟩ = some (.string nj) ∧ w'.cell? ⟨bl, ol + j * 2 + 1, none⟩ = some (.slice Aj uj.length cj) ∧
      w'.cell? ⟨w.heap.size, 1, none⟩ = some (.string b.SA) ∧ w'.cell? ⟨w.heap.size, 3, none⟩ = some (.string b.SB) ∧ w'.cell? ⟨w.heap.size, 4, none⟩ = some (.int .i64 b.N) ∧ w'.cell? ⟨w.heap.size, 5, none⟩ = some (.int .i64 b.D)) := by
    intro w' hb'
    exact ⟨below_cell hb' hlvc, below_cell hb' e0, below_cell hb' e1, below_cell hb' e2, below_cell hb' e3, below_cell hb' a1, below_cell hb' a3, below_cell hb' a4, below_cell hb' a5⟩
  have HW0 := Lib.hid hw0
  have HWAY : Hid (brWay st b = (facAt st i)⁻¹ * ownQ b.N b.D va vb * facAt st j) := by
    have h1 : brI st b = i := hii
    have h2 : brJ st b = j := hjj
    show brWay st b = _
    simp only [brWay, brOwn, brVa, brVb, h1, h2, hli, hlj, hva, hvb]
  clear hv hw0 he hea heb hsi hsj hni hnj e0 e1 e2 e3 hli hlj hva hvb hlvc hlv hbl a1 a3 a4 a5 Y
  go_enter Tryd.func99, Tryd.ntmps99
  go_wp2_with (first | (go_at_call_of 101 (Value.string b.A); refine HI1.out.mono ?_; rintro e w1 ⟨rfl, rfl⟩) | (go_at_call_of 101 (Value.string b.B); refine HI2.out.mono ?_; rintro e w1 ⟨rfl, rfl⟩) | (go_at_call 102; refine (H3.out _).mono ?_; rintro e w1 ⟨rfl, rfl⟩))
  obtain ⟨V, hV⟩ : ∃ V, W.alloc (.cells #[.int .i64 0, .int .i64 0] 24) = V := ⟨_, rfl⟩
  rw [hV] at hW1 ⊢
  obtain ⟨k0, k1, k2, k3, k4, k5, k6, k7, k8⟩ := HK.out V hW1
  have HW1 := Lib.hid hW1
  clear hW1 a0 a2
  go_region_held3 (fun w' => w'.cell? ⟨Bk, 0, none⟩ = some (.slice (some ⟨bl, ol, none⟩) st.ls.length cl) ∧ w'.cell? ⟨bl, ol + i * 2, none⟩ = some (.string ni) ∧ w'.cell? ⟨bl, ol + i * 2 + 1, none⟩ = some (.slice Ai ui.length ci) ∧ w'.cell? ⟨w.heap.size, 1, none⟩ = some (.string b.SA))
    (first | go_keep | (obtain ⟨l0, l1, l2, l3, l4, l5, l6, l7, l8⟩ := HK.out _ hbl1; exact ⟨l0, l1, l2, l5⟩)) (first
    | (go_at_call 29; refine (HV1.out _ (below_drew HW1.out)).mono ?_; rintro e w1 ⟨rfl, hb1⟩; have hbl1 : Below W.heap.size W w1 := below_then HW1.out (below_undrew hb1)))
  obtain ⟨l0, l1, l2, l3, l4, l5, l6, l7, l8⟩ := HK.out w1 hbl1
  clear k0 k1 k2 k3 k4 k5 k6 k7 k8
  have HB1 := Lib.hid hbl1
  clear hbl1
  go_wp2
  go_region_held3 (fun w' => w'.cell? ⟨Bk, 0, none⟩ = some (.slice (some ⟨bl, ol, none⟩) st.ls.length cl) ∧ w'.cell? ⟨bl, ol + j * 2, none⟩ = some (.string nj) ∧ w'.cell? ⟨bl, ol + j * 2 + 1, none⟩ = some (.slice Aj uj.length cj) ∧ w'.cell? ⟨w.heap.size, 3, none⟩ = some (.string b.SB))
    (first | go_keep | (obtain ⟨m0, m1, m2, m3, m4, m5, m6, m7, m8⟩ := HK.out _ hbl2; exact ⟨m0, m3, m4, m6⟩)) (first
    | (go_at_call 29; refine (HV2.out _ (below_drew HB1.out)).mono ?_; rintro e w2 ⟨rfl, hb2⟩; have hbl2 : Below W.heap.size W w2 := below_then HB1.out (below_undrew hb2)))
  obtain ⟨m0, m1, m2, m3, m4, m5, m6, m7, m8⟩ := HK.out w2 hbl2
  clear l0 l1 l2 l3 l4 l5 l6 l7 l8
  have HB2 := Lib.hid hbl2
  clear hbl2
  have HBL := Lib.hid hb.toL
  have HBK := Lib.hid (hb.view.below HW0.out)
  have HG := Lib.hid hg
  have HO := Lib.hid hb
  have HF := Lib.hid hF
  have HGQ := Lib.hid hgg
  have HII := Lib.hid hii
  have HJJ := Lib.hid hjj
  clear hF hgg
  clear hb hg hii hjj
  go_wp2_with (first | (go_at_call 23; refine (HRR.out w2).mono ?_; rintro e w3 ⟨rfl, hb3⟩; have hbl3 : Below W.heap.size W w3 := below_then HB2.out hb3; obtain ⟨n0, n1, n2, n3, n4, n5, n6, n7, n8⟩ := HK.out _ hbl3; have HB3 := Lib.hid hbl3; clear hbl3 m0 m1 m2 m3 m4 m5 m6 m7 m8) | (go_at_call 97; refine (need_any true 2 _).mono ?_; rintro e w4 ⟨rfl, rfl⟩) | (go_at_call 102; refine (first3_any 0 0 0 0 _ rfl).mono ?_; rintro e w5 ⟨rfl, rfl⟩))
  obtain ⟨V2, hV2⟩ : ∃ V2, w3.alloc (.cells #[.int .i64 0, .int .i64 0, .int .i64 0] 24) = V2 := ⟨_, rfl⟩
  have hbV2 : Below W.heap.size W V2 := by rw [← hV2]; exact HB3.out.alloc HB3.out.size _
  rw [hV2]
  clear n0 n1 n2 n3 n4 n5 n6 n7 n8 HV1 HV2 HRR HI1 HI2 H3
  obtain ⟨n0, n1, n2, n3, n4, n5, n6, n7, n8⟩ := HK.out _ hbV2
  clear n0 n1 n2 n3 n4 n5 n6
  have HBV2 := Lib.hid hbV2
  have HRAB : Hid (Calls Tryd.prog 121 #[.agg #[.slice (some ⟨V2.heap.size, 0, none⟩) 2 2, .slice (some ⟨V2.heap.size + 1, 0, none⟩) 2 2]] ((V2.alloc (.cells #[.int .u64 b.N.natAbs, .int .u64 vb.natAbs] 117)).alloc (.cells #[.int .u64 b.D.natAbs, .int .u64 va.natAbs] 117)).drew fun e w'' => ∃ A1 m1 i1 A2 m2 i2, e = .returned (.agg #[.slice A1 m1 i1, .slice A2 m2 i2]) ∧ Below V2.heap.size V2 w'' ∧ Hid (PV w'' (.agg #[.slice A1 m1 i1, .slice A2 m2 i2]) (ownQ b.N b.D va vb) 2)) := by
    have hbw : Below V2.heap.size V2 ((V2.alloc (.cells #[.int .u64 b.N.natAbs, .int .u64 vb.natAbs] 117)).alloc (.cells #[.int .u64 b.D.natAbs, .int .u64 va.natAbs] 117)) := below2 _ _ _
    have h1 : Sl ((V2.alloc (.cells #[.int .u64 b.N.natAbs, .int .u64 vb.natAbs] 117)).alloc (.cells #[.int .u64 b.D.natAbs, .int .u64 va.natAbs] 117)) 1 (.slice (some ⟨V2.heap.size, 0, none⟩) 2 2) (u64s [b.N.natAbs, vb.natAbs]) := ((Cel.at _ (V2.heap.size) _ #[.int .u64 b.N.natAbs, .int .u64 vb.natAbs] (by simp)).alloc _).sl (s := 1) rfl rfl (Nat.le_refl 2) (by decide)
    have h2 : Sl ((V2.alloc (.cells #[.int .u64 b.N.natAbs, .int .u64 vb.natAbs] 117)).alloc (.cells #[.int .u64 b.D.natAbs, .int .u64 va.natAbs] 117)) 1 (.slice (some ⟨V2.heap.size + 1, 0, none⟩) 2 2) (u64s [b.D.natAbs, va.natAbs]) := (Cel.at _ (V2.heap.size + 1) _ #[.int .u64 b.D.natAbs, .int .u64 va.natAbs] (by simp)).sl (s := 1) rfl rfl (Nat.le_refl 2) (by decide)
    refine (own_pv b.N b.D va vb bN (by omega) bR.1 (by omega) bva.1 (by omega) bvb.1 (by omega) _ _ _ h1.drew h2.drew).mono ?_
    rintro e w'' ⟨r, rfl, hb', hp'⟩
    obtain ⟨A1, m1, i1, A2, m2, i2, rfl⟩ := hp'.shape
    exact ⟨A1, m1, i1, A2, m2, i2, rfl, below_then (below_drew hbw) hb', hp'⟩
  have HRBA : Hid (Calls Tryd.prog 121 #[.agg #[.slice (some ⟨V2.heap.size + 1, 0, none⟩) 2 2, .slice (some ⟨V2.heap.size, 0, none⟩) 2 2]] ((V2.alloc (.cells #[.int .u64 b.D.natAbs, .int .u64 va.natAbs] 117)).alloc (.cells #[.int .u64 b.N.natAbs, .int .u64 vb.natAbs] 117)).drew fun e w'' => ∃ A1 m1 i1 A2 m2 i2, e = .returned (.agg #[.slice A1 m1 i1, .slice A2 m2 i2]) ∧ Below V2.heap.size V2 w'' ∧ Hid (PV w'' (.agg #[.slice A1 m1 i1, .slice A2 m2 i2]) (ownQ b.N b.D va vb) 2)) := by
    have hbw : Below V2.heap.size V2 ((V2.alloc (.cells #[.int .u64 b.D.natAbs, .int .u64 va.natAbs] 117)).alloc (.cells #[.int .u64 b.N.natAbs, .int .u64 vb.natAbs] 117)) := below2 _ _ _
    have h1 : Sl ((V2.alloc (.cells #[.int .u64 b.D.natAbs, .int .u64 va.natAbs] 117)).alloc (.cells #[.int .u64 b.N.natAbs, .int .u64 vb.natAbs] 117)) 1 (.slice (some ⟨V2.heap.size + 1, 0, none⟩) 2 2) (u64s [b.N.natAbs, vb.natAbs]) := (Cel.at _ (V2.heap.size + 1) _ #[.int .u64 b.N.natAbs, .int .u64 vb.natAbs] (by simp)).sl (s := 1) rfl rfl (Nat.le_refl 2) (by decide)
    have h2 : Sl ((V2.alloc (.cells #[.int .u64 b.D.natAbs, .int .u64 va.natAbs] 117)).alloc (.cells #[.int .u64 b.N.natAbs, .int .u64 vb.natAbs] 117)) 1 (.slice (some ⟨V2.heap.size, 0, none⟩) 2 2) (u64s [b.D.natAbs, va.natAbs]) := ((Cel.at _ (V2.heap.size) _ #[.int .u64 b.D.natAbs, .int .u64 va.natAbs] (by simp)).alloc _).sl (s := 1) rfl rfl (Nat.le_refl 2) (by decide)
    refine (own_pv b.N b.D va vb bN (by omega) bR.1 (by omega) bva.1 (by omega) bvb.1 (by omega) _ _ _ h1.drew h2.drew).mono ?_
    rintro e w'' ⟨r, rfl, hb', hp'⟩
    obtain ⟨A1, m1, i1, A2, m2, i2, rfl⟩ := hp'.shape
    exact ⟨A1, m1, i1, A2, m2, i2, rfl, below_then (below_drew hbw) hb', hp'⟩
  have HRABX : Hid (Calls Tryd.prog 121 #[.agg #[.slice (some ⟨V2.heap.size, 0, none⟩) 2 2, .slice (some ⟨V2.heap.size + 1, 0, none⟩) 2 2]] (((V2.alloc (.cells #[.int .u64 b.N.natAbs, .int .u64 vb.natAbs] 117)).alloc (.cells #[.int .u64 b.D.natAbs, .int .u64 va.natAbs] 117)).alloc (.cells #[.slice none 0 0, .slice none 0 0] 121)).drew fun e w'' => ∃ A1 m1 i1 A2 m2 i2, e = .returned (.agg #[.slice A1 m1 i1, .slice A2 m2 i2]) ∧ Below V2.heap.size V2 w'' ∧ Hid (PV w'' (.agg #[.slice A1 m1 i1, .slice A2 m2 i2]) (ownQ b.N b.D va vb) 2) ∧ Hid (Cel w'' (V2.heap.size + 1 + 1) 121 #[.slice none 0 0, .slice none 0 0]) ∧ w''.cell? ⟨V2.heap.size + 1 + 1, 0, none⟩ = some (.slice none 0 0) ∧ w''.cell? ⟨V2.heap.size + 1 + 1, 1, none⟩ = some (.slice none 0 0) ∧ w''.frozen? ⟨V2.heap.size + 1 + 1, 0, none⟩ = false ∧ w''.frozen? ⟨V2.heap.size + 1 + 1, 1, none⟩ = false) := by
    have hbw : Below V2.heap.size V2 (((V2.alloc (.cells #[.int .u64 b.N.natAbs, .int .u64 vb.natAbs] 117)).alloc (.cells #[.int .u64 b.D.natAbs, .int .u64 va.natAbs] 117)).alloc (.cells #[.slice none 0 0, .slice none 0 0] 121)) := below3 _ _ _ _
    have h1 : Sl (((V2.alloc (.cells #[.int .u64 b.N.natAbs, .int .u64 vb.natAbs] 117)).alloc (.cells #[.int .u64 b.D.natAbs, .int .u64 va.natAbs] 117)).alloc (.cells #[.slice none 0 0, .slice none 0 0] 121)) 1 (.slice (some ⟨V2.heap.size, 0, none⟩) 2 2) (u64s [b.N.natAbs, vb.natAbs]) := (((Cel.at _ (V2.heap.size) _ #[.int .u64 b.N.natAbs, .int .u64 vb.natAbs] (by simp)).alloc _).alloc _).sl (s := 1) rfl rfl (Nat.le_refl 2) (by decide)
    have h2 : Sl (((V2.alloc (.cells #[.int .u64 b.N.natAbs, .int .u64 vb.natAbs] 117)).alloc (.cells #[.int .u64 b.D.natAbs, .int .u64 va.natAbs] 117)).alloc (.cells #[.slice none 0 0, .slice none 0 0] 121)) 1 (.slice (some ⟨V2.heap.size + 1, 0, none⟩) 2 2) (u64s [b.D.natAbs, va.natAbs]) := ((Cel.at _ (V2.heap.size + 1) _ #[.int .u64 b.D.natAbs, .int .u64 va.natAbs] (by simp)).alloc _).sl (s := 1) rfl rfl (Nat.le_refl 2) (by decide)
    have hx : Cel (((V2.alloc (.cells #[.int .u64 b.N.natAbs, .int .u64 vb.natAbs] 117)).alloc (.cells #[.int .u64 b.D.natAbs, .int .u64 va.natAbs] 117)).alloc (.cells #[.slice none 0 0, .slice none 0 0] 121)) (V2.heap.size + 1 + 1) 121 #[.slice none 0 0, .slice none 0 0] := (Cel.at _ (V2.heap.size + 1 + 1) 121 #[.slice none 0 0, .slice none 0 0] (by simp))
    refine (own_pv b.N b.D va vb bN (by omega) bR.1 (by omega) bva.1 (by omega) bvb.1 (by omega) _ _ _ h1.drew h2.drew).mono ?_
    rintro e w'' ⟨r, rfl, hb', hp'⟩
    obtain ⟨A1, m1, i1, A2, m2, i2, rfl⟩ := hp'.shape
    exact ⟨A1, m1, i1, A2, m2, i2, rfl, below_then (below_drew hbw) hb', hp', celBelow hx (below_undrew hb'), box2 (celBelow hx (below_undrew hb'))⟩
  have HRBAX : Hid (Calls Tryd.prog 121 #[.agg #[.slice (some ⟨V2.heap.size + 1, 0, none⟩) 2 2, .slice (some ⟨V2.heap.size, 0, none⟩) 2 2]] (((V2.alloc (.cells #[.int .u64 b.D.natAbs, .int .u64 va.natAbs] 117)).alloc (.cells #[.int .u64 b.N.natAbs, .int .u64 vb.natAbs] 117)).alloc (.cells #[.slice none 0 0, .slice none 0 0] 121)).drew fun e w'' => ∃ A1 m1 i1 A2 m2 i2, e = .returned (.agg #[.slice A1 m1 i1, .slice A2 m2 i2]) ∧ Below V2.heap.size V2 w'' ∧ Hid (PV w'' (.agg #[.slice A1 m1 i1, .slice A2 m2 i2]) (ownQ b.N b.D va vb) 2) ∧ Hid (Cel w'' (V2.heap.size + 1 + 1) 121 #[.slice none 0 0, .slice none 0 0]) ∧ w''.cell? ⟨V2.heap.size + 1 + 1, 0, none⟩ = some (.slice none 0 0) ∧ w''.cell? ⟨V2.heap.size + 1 + 1, 1, none⟩ = some (.slice none 0 0) ∧ w''.frozen? ⟨V2.heap.size + 1 + 1, 0, none⟩ = false ∧ w''.frozen? ⟨V2.heap.size + 1 + 1, 1, none⟩ = false) := by
    have hbw : Below V2.heap.size V2 (((V2.alloc (.cells #[.int .u64 b.D.natAbs, .int .u64 va.natAbs] 117)).alloc (.cells #[.int .u64 b.N.natAbs, .int .u64 vb.natAbs] 117)).alloc (.cells #[.slice none 0 0, .slice none 0 0] 121)) := below3 _ _ _ _
    have h1 : Sl (((V2.alloc (.cells #[.int .u64 b.D.natAbs, .int .u64 va.natAbs] 117)).alloc (.cells #[.int .u64 b.N.natAbs, .int .u64 vb.natAbs] 117)).alloc (.cells #[.slice none 0 0, .slice none 0 0] 121)) 1 (.slice (some ⟨V2.heap.size + 1, 0, none⟩) 2 2) (u64s [b.N.natAbs, vb.natAbs]) := ((Cel.at _ (V2.heap.size + 1) _ #[.int .u64 b.N.natAbs, .int .u64 vb.natAbs] (by simp)).alloc _).sl (s := 1) rfl rfl (Nat.le_refl 2) (by decide)
    have h2 : Sl (((V2.alloc (.cells #[.int .u64 b.D.natAbs, .int .u64 va.natAbs] 117)).alloc (.cells #[.int .u64 b.N.natAbs, .int .u64 vb.natAbs] 117)).alloc (.cells #[.slice none 0 0, .slice none 0 0] 121)) 1 (.slice (some ⟨V2.heap.size, 0, none⟩) 2 2) (u64s [b.D.natAbs, va.natAbs]) := (((Cel.at _ (V2.heap.size) _ #[.int .u64 b.D.natAbs, .int .u64 va.natAbs] (by simp)).alloc _).alloc _).sl (s := 1) rfl rfl (Nat.le_refl 2) (by decide)
    have hx : Cel (((V2.alloc (.cells #[.int .u64 b.D.natAbs, .int .u64 va.natAbs] 117)).alloc (.cells #[.int .u64 b.N.natAbs, .int .u64 vb.natAbs] 117)).alloc (.cells #[.slice none 0 0, .slice none 0 0] 121)) (V2.heap.size + 1 + 1) 121 #[.slice none 0 0, .slice none 0 0] := (Cel.at _ (V2.heap.size + 1 + 1) 121 #[.slice none 0 0, .slice none 0 0] (by simp))
    refine (own_pv b.N b.D va vb bN (by omega) bR.1 (by omega) bva.1 (by omega) bvb.1 (by omega) _ _ _ h1.drew h2.drew).mono ?_
    rintro e w'' ⟨r, rfl, hb', hp'⟩
    obtain ⟨A1, m1, i1, A2, m2, i2, rfl⟩ := hp'.shape
    exact ⟨A1, m1, i1, A2, m2, i2, rfl, below_then (below_drew hbw) hb', hp', celBelow hx (below_undrew hb'), box2 (celBelow hx (below_undrew hb'))⟩
  have HRAXB : Hid (Calls Tryd.prog 121 #[.agg #[.slice (some ⟨V2.heap.size, 0, none⟩) 2 2, .slice (some ⟨V2.heap.size + 1 + 1, 0, none⟩) 2 2]] (((V2.alloc (.cells #[.int .u64 b.N.natAbs, .int .u64 vb.natAbs] 117)).alloc (.cells #[.slice none 0 0, .slice none 0 0] 121)).alloc (.cells #[.int .u64 b.D.natAbs, .int .u64 va.natAbs] 117)).drew fun e w'' => ∃ A1 m1 i1 A2 m2 i2, e = .returned (.agg #[.slice A1 m1 i1, .slice A2 m2 i2]) ∧ Below V2.heap.size V2 w'' ∧ Hid (PV w'' (.agg #[.slice A1 m1 i1, .slice A2 m2 i2]) (ownQ b.N b.D va vb) 2) ∧ Hid (Cel w'' (V2.heap.size + 1) 121 #[.slice none 0 0, .slice none 0 0]) ∧ w''.cell? ⟨V2.heap.size + 1, 0, none⟩ = some (.slice none 0 0) ∧ w''.cell? ⟨V2.heap.size + 1, 1, none⟩ = some (.slice none 0 0) ∧ w''.frozen? ⟨V2.heap.size + 1, 0, none⟩ = false ∧ w''.frozen? ⟨V2.heap.size + 1, 1, none⟩ = false) := by
    have hbw : Below V2.heap.size V2 (((V2.alloc (.cells #[.int .u64 b.N.natAbs, .int .u64 vb.natAbs] 117)).alloc (.cells #[.slice none 0 0, .slice none 0 0] 121)).alloc (.cells #[.int .u64 b.D.natAbs, .int .u64 va.natAbs] 117)) := below3 _ _ _ _
    have h1 : Sl (((V2.alloc (.cells #[.int .u64 b.N.natAbs, .int .u64 vb.natAbs] 117)).alloc (.cells #[.slice none 0 0, .slice none 0 0] 121)).alloc (.cells #[.int .u64 b.D.natAbs, .int .u64 va.natAbs] 117)) 1 (.slice (some ⟨V2.heap.size, 0, none⟩) 2 2) (u64s [b.N.natAbs, vb.natAbs]) := (((Cel.at _ (V2.heap.size) _ #[.int .u64 b.N.natAbs, .int .u64 vb.natAbs] (by simp)).alloc _).alloc _).sl (s := 1) rfl rfl (Nat.le_refl 2) (by decide)
    have h2 : Sl (((V2.alloc (.cells #[.int .u64 b.N.natAbs, .int .u64 vb.natAbs] 117)).alloc (.cells #[.slice none 0 0, .slice none 0 0] 121)).alloc (.cells #[.int .u64 b.D.natAbs, .int .u64 va.natAbs] 117)) 1 (.slice (some ⟨V2.heap.size + 1 + 1, 0, none⟩) 2 2) (u64s [b.D.natAbs, va.natAbs]) := (Cel.at _ (V2.heap.size + 1 + 1) _ #[.int .u64 b.D.natAbs, .int .u64 va.natAbs] (by simp)).sl (s := 1) rfl rfl (Nat.le_refl 2) (by decide)
    have hx : Cel (((V2.alloc (.cells #[.int .u64 b.N.natAbs, .int .u64 vb.natAbs] 117)).alloc (.cells #[.slice none 0 0, .slice none 0 0] 121)).alloc (.cells #[.int .u64 b.D.natAbs, .int .u64 va.natAbs] 117)) (V2.heap.size + 1) 121 #[.slice none 0 0, .slice none 0 0] := ((Cel.at _ (V2.heap.size + 1) 121 #[.slice none 0 0, .slice none 0 0] (by simp)).alloc _)
    refine (own_pv b.N b.D va vb bN (by omega) bR.1 (by omega) bva.1 (by omega) bvb.1 (by omega) _ _ _ h1.drew h2.drew).mono ?_
    rintro e w'' ⟨r, rfl, hb', hp'⟩
    obtain ⟨A1, m1, i1, A2, m2, i2, rfl⟩ := hp'.shape
    exact ⟨A1, m1, i1, A2, m2, i2, rfl, below_then (below_drew hbw) hb', hp', celBelow hx (below_undrew hb'), box2 (celBelow hx (below_undrew hb'))⟩
  have HRXAB : Hid (Calls Tryd.prog 121 #[.agg #[.slice (some ⟨V2.heap.size + 1, 0, none⟩) 2 2, .slice (some ⟨V2.heap.size + 1 + 1, 0, none⟩) 2 2]] (((V2.alloc (.cells #[.slice none 0 0, .slice none 0 0] 121)).alloc (.cells #[.int .u64 b.N.natAbs, .int .u64 vb.natAbs] 117)).alloc (.cells #[.int .u64 b.D.natAbs, .int .u64 va.natAbs] 117)).drew fun e w'' => ∃ A1 m1 i1 A2 m2 i2, e = .returned (.agg #[.slice A1 m1 i1, .slice A2 m2 i2]) ∧ Below V2.heap.size V2 w'' ∧ Hid (PV w'' (.agg #[.slice A1 m1 i1, .slice A2 m2 i2]) (ownQ b.N b.D va vb) 2) ∧ Hid (Cel w'' (V2.heap.size) 121 #[.slice none 0 0, .slice none 0 0]) ∧ w''.cell? ⟨V2.heap.size, 0, none⟩ = some (.slice none 0 0) ∧ w''.cell? ⟨V2.heap.size, 1, none⟩ = some (.slice none 0 0) ∧ w''.frozen? ⟨V2.heap.size, 0, none⟩ = false ∧ w''.frozen? ⟨V2.heap.size, 1, none⟩ = false) := by
    have hbw : Below V2.heap.size V2 (((V2.alloc (.cells #[.slice none 0 0, .slice none 0 0] 121)).alloc (.cells #[.int .u64 b.N.natAbs, .int .u64 vb.natAbs] 117)).alloc (.cells #[.int .u64 b.D.natAbs, .int .u64 va.natAbs] 117)) := below3 _ _ _ _
    have h1 : Sl (((V2.alloc (.cells #[.slice none 0 0, .slice none 0 0] 121)).alloc (.cells #[.int .u64 b.N.natAbs, .int .u64 vb.natAbs] 117)).alloc (.cells #[.int .u64 b.D.natAbs, .int .u64 va.natAbs] 117)) 1 (.slice (some ⟨V2.heap.size + 1, 0, none⟩) 2 2) (u64s [b.N.natAbs, vb.natAbs]) := ((Cel.at _ (V2.heap.size + 1) _ #[.int .u64 b.N.natAbs, .int .u64 vb.natAbs] (by simp)).alloc _).sl (s := 1) rfl rfl (Nat.le_refl 2) (by decide)
    have h2 : Sl (((V2.alloc (.cells #[.slice none 0 0, .slice none 0 0] 121)).alloc (.cells #[.int .u64 b.N.natAbs, .int .u64 vb.natAbs] 117)).alloc (.cells #[.int .u64 b.D.natAbs, .int .u64 va.natAbs] 117)) 1 (.slice (some ⟨V2.heap.size + 1 + 1, 0, none⟩) 2 2) (u64s [b.D.natAbs, va.natAbs]) := (Cel.at _ (V2.heap.size + 1 + 1) _ #[.int .u64 b.D.natAbs, .int .u64 va.natAbs] (by simp)).sl (s := 1) rfl rfl (Nat.le_refl 2) (by decide)
    have hx : Cel (((V2.alloc (.cells #[.slice none 0 0, .slice none 0 0] 121)).alloc (.cells #[.int .u64 b.N.natAbs, .int .u64 vb.natAbs] 117)).alloc (.cells #[.int .u64 b.D.natAbs, .int .u64 va.natAbs] 117)) (V2.heap.size) 121 #[.slice none 0 0, .slice none 0 0] := (((Cel.at _ (V2.heap.size) 121 #[.slice none 0 0, .slice none 0 0] (by simp)).alloc _).alloc _)
    refine (own_pv b.N b.D va vb bN (by omega) bR.1 (by omega) bva.1 (by omega) bvb.1 (by omega) _ _ _ h1.drew h2.drew).mono ?_
    rintro e w'' ⟨r, rfl, hb', hp'⟩
    obtain ⟨A1, m1, i1, A2, m2, i2, rfl⟩ := hp'.shape
    exact ⟨A1, m1, i1, A2, m2, i2, rfl, below_then (below_drew hbw) hb', hp', celBelow hx (below_undrew hb'), box2 (celBelow hx (below_undrew hb'))⟩
  have HRBXA : Hid (Calls Tryd.prog 121 #[.agg #[.slice (some ⟨V2.heap.size + 1 + 1, 0, none⟩) 2 2, .slice (some ⟨V2.heap.size, 0, none⟩) 2 2]] (((V2.alloc (.cells #[.int .u64 b.D.natAbs, .int .u64 va.natAbs] 117)).alloc (.cells #[.slice none 0 0, .slice none 0 0] 121)).alloc (.cells #[.int .u64 b.N.natAbs, .int .u64 vb.natAbs] 117)).drew fun e w'' => ∃ A1 m1 i1 A2 m2 i2, e = .returned (.agg #[.slice A1 m1 i1, .slice A2 m2 i2]) ∧ Below V2.heap.size V2 w'' ∧ Hid (PV w'' (.agg #[.slice A1 m1 i1, .slice A2 m2 i2]) (ownQ b.N b.D va vb) 2) ∧ Hid (Cel w'' (V2.heap.size + 1) 121 #[.slice none 0 0, .slice none 0 0]) ∧ w''.cell? ⟨V2.heap.size + 1, 0, none⟩ = some (.slice none 0 0) ∧ w''.cell? ⟨V2.heap.size + 1, 1, none⟩ = some (.slice none 0 0) ∧ w''.frozen? ⟨V2.heap.size + 1, 0, none⟩ = false ∧ w''.frozen? ⟨V2.heap.size + 1, 1, none⟩ = false) := by
    have hbw : Below V2.heap.size V2 (((V2.alloc (.cells #[.int .u64 b.D.natAbs, .int .u64 va.natAbs] 117)).alloc (.cells #[.slice none 0 0, .slice none 0 0] 121)).alloc (.cells #[.int .u64 b.N.natAbs, .int .u64 vb.natAbs] 117)) := below3 _ _ _ _
    have h1 : Sl (((V2.alloc (.cells #[.int .u64 b.D.natAbs, .int .u64 va.natAbs] 117)).alloc (.cells #[.slice none 0 0, .slice none 0 0] 121)).alloc (.cells #[.int .u64 b.N.natAbs, .int .u64 vb.natAbs] 117)) 1 (.slice (some ⟨V2.heap.size + 1 + 1, 0, none⟩) 2 2) (u64s [b.N.natAbs, vb.natAbs]) := (Cel.at _ (V2.heap.size + 1 + 1) _ #[.int .u64 b.N.natAbs, .int .u64 vb.natAbs] (by simp)).sl (s := 1) rfl rfl (Nat.le_refl 2) (by decide)
    have h2 : Sl (((V2.alloc (.cells #[.int .u64 b.D.natAbs, .int .u64 va.natAbs] 117)).alloc (.cells #[.slice none 0 0, .slice none 0 0] 121)).alloc (.cells #[.int .u64 b.N.natAbs, .int .u64 vb.natAbs] 117)) 1 (.slice (some ⟨V2.heap.size, 0, none⟩) 2 2) (u64s [b.D.natAbs, va.natAbs]) := (((Cel.at _ (V2.heap.size) _ #[.int .u64 b.D.natAbs, .int .u64 va.natAbs] (by simp)).alloc _).alloc _).sl (s := 1) rfl rfl (Nat.le_refl 2) (by decide)
    have hx : Cel (((V2.alloc (.cells #[.int .u64 b.D.natAbs, .int .u64 va.natAbs] 117)).alloc (.cells #[.slice none 0 0, .slice none 0 0] 121)).alloc (.cells #[.int .u64 b.N.natAbs, .int .u64 vb.natAbs] 117)) (V2.heap.size + 1) 121 #[.slice none 0 0, .slice none 0 0] := ((Cel.at _ (V2.heap.size + 1) 121 #[.slice none 0 0, .slice none 0 0] (by simp)).alloc _)
    refine (own_pv b.N b.D va vb bN (by omega) bR.1 (by omega) bva.1 (by omega) bvb.1 (by omega) _ _ _ h1.drew h2.drew).mono ?_
    rintro e w'' ⟨r, rfl, hb', hp'⟩
    obtain ⟨A1, m1, i1, A2, m2, i2, rfl⟩ := hp'.shape
    exact ⟨A1, m1, i1, A2, m2, i2, rfl, below_then (below_drew hbw) hb', hp', celBelow hx (below_undrew hb'), box2 (celBelow hx (below_undrew hb'))⟩
  have HRXBA : Hid (Calls Tryd.prog 121 #[.agg #[.slice (some ⟨V2.heap.size + 1 + 1, 0, none⟩) 2 2, .slice (some ⟨V2.heap.size + 1, 0, none⟩) 2 2]] (((V2.alloc (.cells #[.slice none 0 0, .slice none 0 0] 121)).alloc (.cells #[.int .u64 b.D.natAbs, .int .u64 va.natAbs] 117)).alloc (.cells #[.int .u64 b.N.natAbs, .int .u64 vb.natAbs] 117)).drew fun e w'' => ∃ A1 m1 i1 A2 m2 i2, e = .returned (.agg #[.slice A1 m1 i1, .slice A2 m2 i2]) ∧ Below V2.heap.size V2 w'' ∧ Hid (PV w'' (.agg #[.slice A1 m1 i1, .slice A2 m2 i2]) (ownQ b.N b.D va vb) 2) ∧ Hid (Cel w'' (V2.heap.size) 121 #[.slice none 0 0, .slice none 0 0]) ∧ w''.cell? ⟨V2.heap.size, 0, none⟩ = some (.slice none 0 0) ∧ w''.cell? ⟨V2.heap.size, 1, none⟩ = some (.slice none 0 0) ∧ w''.frozen? ⟨V2.heap.size, 0, none⟩ = false ∧ w''.frozen? ⟨V2.heap.size, 1, none⟩ = false) := by
    have hbw : Below V2.heap.size V2 (((V2.alloc (.cells #[.slice none 0 0, .slice none 0 0] 121)).alloc (.cells #[.int .u64 b.D.natAbs, .int .u64 va.natAbs] 117)).alloc (.cells #[.int .u64 b.N.natAbs, .int .u64 vb.natAbs] 117)) := below3 _ _ _ _
    have h1 : Sl (((V2.alloc (.cells #[.slice none 0 0, .slice none 0 0] 121)).alloc (.cells #[.int .u64 b.D.natAbs, .int .u64 va.natAbs] 117)).alloc (.cells #[.int .u64 b.N.natAbs, .int .u64 vb.natAbs] 117)) 1 (.slice (some ⟨V2.heap.size + 1 + 1, 0, none⟩) 2 2) (u64s [b.N.natAbs, vb.natAbs]) := (Cel.at _ (V2.heap.size + 1 + 1) _ #[.int .u64 b.N.natAbs, .int .u64 vb.natAbs] (by simp)).sl (s := 1) rfl rfl (Nat.le_refl 2) (by decide)
    have h2 : Sl (((V2.alloc (.cells #[.slice none 0 0, .slice none 0 0] 121)).alloc (.cells #[.int .u64 b.D.natAbs, .int .u64 va.natAbs] 117)).alloc (.cells #[.int .u64 b.N.natAbs, .int .u64 vb.natAbs] 117)) 1 (.slice (some ⟨V2.heap.size + 1, 0, none⟩) 2 2) (u64s [b.D.natAbs, va.natAbs]) := ((Cel.at _ (V2.heap.size + 1) _ #[.int .u64 b.D.natAbs, .int .u64 va.natAbs] (by simp)).alloc _).sl (s := 1) rfl rfl (Nat.le_refl 2) (by decide)
    have hx : Cel (((V2.alloc (.cells #[.slice none 0 0, .slice none 0 0] 121)).alloc (.cells #[.int .u64 b.D.natAbs, .int .u64 va.natAbs] 117)).alloc (.cells #[.int .u64 b.N.natAbs, .int .u64 vb.natAbs] 117)) (V2.heap.size) 121 #[.slice none 0 0, .slice none 0 0] := (((Cel.at _ (V2.heap.size) 121 #[.slice none 0 0, .slice none 0 0] (by simp)).alloc _).alloc _)
    refine (own_pv b.N b.D va vb bN (by omega) bR.1 (by omega) bva.1 (by omega) bvb.1 (by omega) _ _ _ h1.drew h2.drew).mono ?_
    rintro e w'' ⟨r, rfl, hb', hp'⟩
    obtain ⟨A1, m1, i1, A2, m2, i2, rfl⟩ := hp'.shape
    exact ⟨A1, m1, i1, A2, m2, i2, rfl, below_then (below_drew hbw) hb', hp', celBelow hx (below_undrew hb'), box2 (celBelow hx (below_undrew hb'))⟩
  clear hbV2
  have HK2 : Hid (∀ w', Below V2.heap.size V2 w' → w'.cell? ⟨w.heap.size, 4, none⟩ = some (.int .i64 b.N) ∧ w'.cell? ⟨w.heap.size, 5, none⟩ = some (.int .i64 b.D)) := by
    intro w' hb'
    exact ⟨below_cell hb' n7, below_cell hb' n8⟩
  go_cut [13] (fun s13 wx => ∃ (Bx : Nat) (X1 : Option Addr) (m1 i1 : Nat) (X2 : Option Addr) (m2 i2 : Nat), s13 = .pointer (some ⟨Bx, 0, none⟩) ∧ Below V2.heap.size V2 wx ∧ V2.heap.size ≤ Bx ∧ Cel wx Bx 121 #[.slice X1 m1 i1, .slice X2 m2 i2] ∧ PV wx (.agg #[.slice X1 m1 i1, .slice X2 m2 i2]) (ownQ b.N b.D va vb) 2)
  case first =>
    as_aux_lemma =>
      clear HK HBK HW0 HW1 HB1 HB2 HB3 HBV2 HBL HG HO HWAY HF HII HJJ
      go_region_held3 (fun w' => w'.cell? ⟨w.heap.size, 4, none⟩ = some (.int .i64 b.N) ∧ w'.cell? ⟨w.heap.size, 5, none⟩ = some (.int .i64 b.D))
        (first | exact HK2.out _ (below_undrew (Below.refl _ _)) | exact HK2.out _ hbl4 | exact HK2.out _ (hbl4.alloc hbl4.size _) | exact HK2.out _ ((hbl4.setCell (by first | (simp; done) | (simp; omega)) _).setCell (by first | (simp; done) | (simp; omega)) _) | exact HK2.out _ (below_drew (below_alloc' _ _)) | exact HK2.out _ (below_drew (below2 _ _ _)) | exact HK2.out _ (below_drew (below3 _ _ _ _))) (first
        | (go_at_call_of 86 (Value.int IntKind.i64 b.N); refine (size_any _ _ (by omega) (by omega)).mono ?_; rintro e w4 ⟨rfl, rfl⟩)
        | (go_at_call_of 86 (Value.int IntKind.i64 vb); refine (size_any _ _ (by omega) (by omega)).mono ?_; rintro e w4 ⟨rfl, rfl⟩)
        | (go_at_call_of 86 (Value.int IntKind.i64 b.D); refine (size_any _ _ (by omega) (by omega)).mono ?_; rintro e w4 ⟨rfl, rfl⟩)
        | (go_at_call_of 86 (Value.int IntKind.i64 va); refine (size_any _ _ (by omega) (by omega)).mono ?_; rintro e w4 ⟨rfl, rfl⟩)
        | (go_at_call 121; with_reducible refine HRAB.out.mono ?_; rintro e w4 ⟨X1, m1, i1, X2, m2, i2, rfl, hbl4, HP4⟩)
        | (go_at_call 121; with_reducible refine HRBA.out.mono ?_; rintro e w4 ⟨X1, m1, i1, X2, m2, i2, rfl, hbl4, HP4⟩)
        | (go_at_call 121; with_reducible refine HRBAX.out.mono ?_; rintro e w4 ⟨X1, m1, i1, X2, m2, i2, rfl, hbl4, HP4, HY4, q0, q1, z0, z1⟩)
        | (go_at_call 121; with_reducible refine HRAXB.out.mono ?_; rintro e w4 ⟨X1, m1, i1, X2, m2, i2, rfl, hbl4, HP4, HY4, q0, q1, z0, z1⟩)
        | (go_at_call 121; with_reducible refine HRXAB.out.mono ?_; rintro e w4 ⟨X1, m1, i1, X2, m2, i2, rfl, hbl4, HP4, HY4, q0, q1, z0, z1⟩)
        | (go_at_call 121; with_reducible refine HRBXA.out.mono ?_; rintro e w4 ⟨X1, m1, i1, X2, m2, i2, rfl, hbl4, HP4, HY4, q0, q1, z0, z1⟩)
        | (go_at_call 121; with_reducible refine HRXBA.out.mono ?_; rintro e w4 ⟨X1, m1, i1, X2, m2, i2, rfl, hbl4, HP4, HY4, q0, q1, z0, z1⟩)
        | (go_at_call 121; with_reducible refine HRABX.out.mono ?_; rintro e w4 ⟨X1, m1, i1, X2, m2, i2, rfl, hbl4, HP4, HY4, q0, q1, z0, z1⟩))
      all_goals (
        go_wp2_with fail
        go_meet
        first
          | exact ⟨_, X1, m1, i1, X2, m2, i2, rfl, hbl4.alloc hbl4.size _, hbl4.size, Cel.new _ _ _, HP4.out.below (below_alloc' _ _)⟩
          | exact ⟨_, X1, m1, i1, X2, m2, i2, rfl, box_done hbl4 (by omega) HY4.out HP4.out _ _⟩)
  case rest =>
    clear HRAB HRBA HRABX HRBAX HRAXB HRXAB HRBXA HRXBA HK2 HK
    obtain ⟨Bx, X1, m1, i1, X2, m2, i2, rfl, hbx, hle, hyx, hpx⟩ := hcut
    have hwx := below_then HBV2.out hbx
    have HL := Lib.hid (HBL.out.below (below_then HW0.out hwx))
    have HY := Lib.hid hyx
    have HP := Lib.hid hpx
    have HW := Lib.hid (below_then HW0.out hwx)
    have hgl := HG.out.grp
    have hfl := HG.out.fac
    obtain ⟨Ag, cg, hgv, hgc, hgm, hgs⟩ := own_slice HL.out.grp
    obtain ⟨gb, rfl, hgb, hgb2⟩ := hgs (by omega)
    have hcell : ∀ k, k < st.ls.length → wc.cell? ⟨gb, k, none⟩ = some (.int .i64 (grpAt st k : Nat)) := by
      intro k hk
      have hk' : k < st.grp.length := by omega
      have hown := HL.out.grp
      rw [hgv] at hown
      have := hown.cells (g := gb) rfl k (.int .i64 (grpAt st k : Nat)) (by rw [grpAt_get st hk']; simp [grpV, hk'])
      rwa [add_plain, Nat.zero_add] at this
    obtain ⟨ag, hag⟩ : ∃ ag, (⟨gb, 0, none⟩ : Addr) = ag := ⟨_, rfl⟩
    have hadd : ∀ k, ag.add k = ⟨gb, k, none⟩ := by intro k; rw [← hag, add_plain, Nat.zero_add]
    have e5 := HL.out.blk.cell 2 _ rfl
    rw [hgv, hag] at e5
    have e6 := hcell i hi
    have e7 := hcell j hj
    rw [← hadd, hgi] at e6
    rw [← hadd, hgj] at e7
    have Hgv := Lib.hid hgv
    have HAG := Lib.hid hag
    have HGI := Lib.hid hgi
    have HGJ := Lib.hid hgj
    have Hadd := Lib.hid hadd
    have hB0 := HY.out.cell 0 (.slice X1 m1 i1) rfl
    have hB1 := HY.out.cell 1 (.slice X2 m2 i2) rfl
    have HLim := Lib.hid (fun k => St.lim_le (st := st) (by rw [hgl]; exact HG.out.few) k)
    clear hgv hcell hag hadd hgs hbx hle hyx hpx hwx HBV2 HBK hgi hgj
    have hgg := HGQ.out
    subst hgg
    have hF := HF.out
    rw [if_pos rfl] at hF
    injection hF with hF1 hF2
    have HF1 := Lib.hid hF1
    have HF2 := Lib.hid hF2
    clear hF1 hF2
    go_wp2
    go_quiet (fail)
    have hB0' : (wc.drewN nq).cell? ⟨Bx, 0, none⟩ = some (.slice X1 m1 i1) := hB0
    have hB1' : (wc.drewN nq).cell? ⟨Bx, 1, none⟩ = some (.slice X2 m2 i2) := hB1
    go_wp2
    obtain ⟨V3, hV3⟩ : ∃ V3, wc.drewN nq = V3 := ⟨_, rfl⟩
    have hbv : Below wc.heap.size wc V3 := by rw [← hV3]; exact below_drewN' wc nq
    rw [hV3] at hB0' hB1' ⊢
    have HBV := Lib.hid hbv
    clear hV3 hbv e5 e6 e7 hB0 hB1
    have hv := (BookL.view_fac (HL.out.below HBV.out))
    have HFV := Lib.hid hv
    have HK3 : Hid (∀ w', Below V3.heap.size V3 w' → w'.cell? ⟨Bx, 0, none⟩ = some (.slice X1 m1 i1) ∧ w'.cell? ⟨Bx, 1, none⟩ = some (.slice X2 m2 i2)) := by
      intro w' hb'
      exact ⟨below_cell hb' hB0', below_cell hb' hB1'⟩
    have HBTW := Lib.hid (between_any Bk bm lv gv fv st.fac st.lim i j V3.drew (HL.out.below (below_drew HBV.out)).blk ((BookL.view_fac (HL.out.below (below_drew HBV.out)))) (by omega) (by omega) (HLim.out i) (HLim.out j))
    rw [← facAt_get st (by omega), ← facAt_get st (by omega)] at HBTW
    have HLI := Lib.hid (HLim.out i)
    have HLJ := Lib.hid (HLim.out j)
    have HPX : Hid (∀ w', Below V3.heap.size V3 w' → PV w' (.agg #[.slice X1 m1 i1, .slice X2 m2 i2]) (ownQ b.N b.D va vb) 2) := fun w' hb' => HP.out.below (below_then HBV.out hb')
    have hl2 : st.lim i + st.lim j + 2 ≤ 17592186044415 := by have := HLI.out; have := HLJ.out; omega
    have HL2 := Lib.hid hl2
    clear hv hl2
    go_region_held3 (fun w' => w'.cell? ⟨Bx, 0, none⟩ = some (.slice X1 m1 i1) ∧ w'.cell? ⟨Bx, 1, none⟩ = some (.slice X2 m2 i2))
      (first | exact HK3.out _ (below_undrew (Below.refl _ _)) | exact HK3.out _ hbl8 | exact HK3.out _ hbl7 | exact HK3.out _ hbl6 | exact HK3.out _ hbl5) (first
      | (go_at_call 124; refine HBTW.out.mono ?_; rintro e w5 ⟨r5, rfl, hb5, hp5⟩; have hbl5 : Below V3.heap.size V3 w5 := below_undrew hb5; have HP5 := Lib.hid hp5; obtain ⟨Y1, n3, d3, Y2, n4, d4, rfl⟩ := hp5.shape)
      | (go_at_call 125; refine (turned_pv _ _ _ _ (HPX.out _ hbl5)).mono ?_; rintro e w6 ⟨r6, rfl, hb6, hp6⟩; have hbl6 : Below V3.heap.size V3 w6 := below_then hbl5 hb6; have HP6 := Lib.hid hp6; obtain ⟨Z1, n5, d5, Z2, n6, d6, rfl⟩ := hp6.shape)
      | (go_at_call 104; refine (times_pv _ _ _ _ _ _ _ (HP5.out.below hb6) HP6.out HL2.out).mono ?_; rintro e w7 ⟨r7, rfl, hb7, hp7⟩; have hbl7 : Below V3.heap.size V3 w7 := below_then hbl6 hb7; have HP7 := Lib.hid hp7; obtain ⟨U1, n7, d7, U2, n8, d8, rfl⟩ := hp7.shape)
      | (go_at_call 126; refine (one_pv _ _ _ _ HP7.out).mono ?_; rintro e w8 ⟨rfl, hb8⟩; have hbl8 : Below V3.heap.size V3 w8 := below_then hbl7 hb8)
      | (go_at_call 97; refine (need_any _ 12 _).mono ?_; rintro e w9 ⟨rfl, rfl⟩))
    go_wp2
    go_ret
    have hfin := below_then HW.out (below_then HBV.out hbl8)
    refine ⟨by rw [HF1.out] <;> rfl, hfin.mono hbase, ?_⟩
    rw [← HF2.out]
    exact (HO.out.toL.below hfin).toO (fun k _ => Nat.le_refl _)
end
end Go.Proofs.YtmibpncmebhbjaaDoor
