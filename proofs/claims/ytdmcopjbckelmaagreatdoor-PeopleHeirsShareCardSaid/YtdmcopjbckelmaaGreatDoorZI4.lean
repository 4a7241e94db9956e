/- Walks of the reference: Parents, Children. Conditions: those stated. -/
import Derived.Test.YtdmcopjbckelmaaGreatDoorZI1
import Derived.Test.YtdmcopjbckelmaaGreatDoorZF1
import Derived.BigQuiet
namespace Go.Proofs.YtdmcopjbckelmaaGreatDoor
open Go Go.RowKit Go.Shelf
attribute [local go_sem] Oper.semAt_some

theorem filter_snoc {ps : List ByteArray} {k : Nat} {s : ByteArray} (P : ByteArray → Bool) (h : ps[k]? = some s) : (ps.take (k + 1)).filter P = (ps.take k).filter P ++ (if P s then [s] else []) := by
  rw [List.take_add_one, h, List.filter_append]
  congr 1
  by_cases e : P s <;> simp [e]
theorem filter_len (P : ByteArray → Bool) (ps : List ByteArray) (k : Nat) : ((ps.take k).filter P).length ≤ k := Nat.le_trans (List.length_filter_le _ _) (by simp; omega)
theorem named_self (ps : List ByteArray) (fs : List Fa) (a : ByteArray) : namedF ps fs [a, a] = namedF ps fs [a] := by
  unfold namedF allN
  split
  · rfl
  · simp only [List.all_cons, List.all_nil, Bool.and_true, Bool.and_self]
set_option maxRecDepth 100000 in
set_option maxHeartbeats 8000000 in
theorem rparents_bad (r : Int) (hr : r = 3 ∨ r = 100 ∨ r = 2) (A : Option Addr) (c : Nat) (F : Option Addr) (d : Nat) (ps : List ByteArray) (fs : List Fa) (a : ByteArray) (w : World) (h : NetC w A ps.length c F fs.length d ps fs) (hs : Short ps) (hc : namedF ps fs [a, a] = r) :
    Calls Tryz.prog 30 #[.agg #[.slice A ps.length c, .slice F fs.length d], .string a] w (NamesP [] r w) := by
  have hb0 := below_alloc' w (.cells #[.slice A ps.length c, .slice F fs.length d] 25)
  have y0 := Cel.new w 25 #[.slice A ps.length c, .slice F fs.length d]
  have HK := Lib.hid (asked_any A ps.length c F fs.length d ps fs a a _ (h.below hb0) hs)
  rw [hc] at HK
  clear h hs hc
  rcases hr with rfl | rfl | rfl
  all_goals
    go_enter Tryz.func30, Tryz.ntmps30
    go_wp2_with fail
    refine HK.out.mono ?_
    rintro e w1 ⟨rfl, hb1⟩
    have HB := Lib.hid (hb0.trans (hb1.mono hb0.size))
    have HY := Lib.hid (y0.below y0.lt hb1)
    clear hb0 hb1 y0 HK
    go_wp2
    go_ret2
    exact ⟨HB.out, _, rfl, Sl.nil0 _ _⟩
set_option maxRecDepth 100000 in
set_option maxHeartbeats 8000000 in
theorem rparents_good (A : Option Addr) (c : Nat) (F : Option Addr) (d : Nat) (ps : List ByteArray) (fs : List Fa) (a : ByteArray) (w : World) (h : NetC w A ps.length c F fs.length d ps fs) (hs : Short ps) (hc : namedF ps fs [a, a] = 0) (hp : ps.length ≤ 24) :
    Calls Tryz.prog 30 #[.agg #[.slice A ps.length c, .slice F fs.length d], .string a] w (NamesP (ps.filter (fun s => parB fs a s)) 0 w) := by
  have hb0 := below_alloc' w (.cells #[.slice A ps.length c, .slice F fs.length d] 25)
  have y0 := Cel.new w 25 #[.slice A ps.length c, .slice F fs.length d]
  have HK := Lib.hid (asked_any A ps.length c F fs.length d ps fs a a _ (h.below hb0) hs)
  rw [hc] at HK
  have HPc := Lib.hid (fun q => h.person q)
  have HPa := Lib.hid (fun s w' (hw : Below w.heap.size w w') => parent_any A ps.length c F fs.length d ps fs a s w' (h.below hw))
  have HP := Lib.hid hp
  clear h hs hc
  go_enter Tryz.func30, Tryz.ntmps30
  go_wp2_with fail
  refine HK.out.mono ?_
  rintro e w1 ⟨rfl, hb1⟩
  have HB := Lib.hid (hb0.trans (hb1.mono hb0.size))
  have HY := Lib.hid (y0.below y0.lt hb1)
  clear hb0 hb1 y0 HK
  have HSz := Lib.hid (show w.heap.size + 1 ≤ w1.heap.size by have := HY.out.lt; omega)
  have HO := Lib.hid (World.ownsRow_nil w1 (w.heap.size + 1) 9 1)
  have HU := Lib.hid (Below.refl w1.heap.size w1)
  go_wp2
  go_loopw [7, 8] (fun v7 t8 wr => ∃ (k : Nat), t8 = .int .i64 k ∧ k ≤ ps.length ∧ Hid (wr.ownsRow (w.heap.size + 1) 9 1 v7 ((ps.take k).filter (fun s => parB fs a s)).length (namesV ((ps.take k).filter (fun s => parB fs a s)))) ∧ Hid (Cel wr w.heap.size 25 #[.slice A ps.length c, .slice F fs.length d]) ∧ Hid (Below w.heap.size w wr) ∧ Hid (w.heap.size + 1 ≤ wr.heap.size)) (fun _ t8 _ => ps.length - (intOf t8).toNat)
  case atStart => exact ⟨0, rfl, by omega, HO.out, HY.out, HB.out, HSz.out⟩
  case round =>
    clear HO HY HB HU HSz
    obtain ⟨k, rfl, hk, HO, HY, HB, HSz⟩ := hrel
    obtain ⟨Ab, cb, rfl, _⟩ := own_shape HO.out
    by_cases hlt : k < ps.length
    · have hki : (k : Int) < (ps.length : Int) := by omega
      have hk0 : (0 : Int) ≤ (k : Int) := by omega
      obtain ⟨b0, o0, rfl, _, hce⟩ := HPc.out (by omega)
      have hget : ps[k]? = some ps[k] := List.getElem?_eq_getElem hlt
      have HD := Lib.hid (hce k _ hget)
      have HM := Lib.hid (filter_snoc (fun s => parB fs a s) hget)
      have HLen := Lib.hid (filter_len (fun s => parB fs a s) ps k)
      have c1 := below_cell HB.out (hce k _ hget)
      have z0 := HY.out.cell 0 _ rfl
      have z1 := HY.out.cell 1 _ rfl
      clear hce hget
      generalize ps[k] = s at *
      have HPs := Lib.hid (HPa.out s)
      obtain ⟨r, hr⟩ : ∃ r, parB fs a s = r := ⟨_, rfl⟩
      simp only [hr] at HM HPs
      clear hr
      go_upto_region 8 with fail
      refine wp_region_held_drew (S := fun w' => Below wr.heap.size wr w') (by kernel_rfl) (below_drew (Below.refl _ _)) (fun hHeld => ?_)
      refine wpAnyH_takeD (i := 0) (v := ?_) 23 rfl (by kernel_rfl) (by kernel_rfl) (by kernel_rfl) (fun _ _ _ h => h) (Or.inl ⟨by rfl, ?_⟩) (by assumption) rfl ?_
      rotate_left
      · intro w' hSw
        have z0 := below_cell hSw z0; have z1 := below_cell hSw z1; have c1 := below_cell hSw c1
        go_simp <;> with_reducible rfl
      simp only [List.setIfInBounds_toArray, List.set_cons_succ, List.set_cons_zero]
      refine wpAnyH_takeD (i := 1) (v := ?_) 24 rfl (by kernel_rfl) (by kernel_rfl) (by kernel_rfl) (fun _ _ _ h => h) (Or.inl ⟨by rfl, ?_⟩) (by assumption) rfl ?_
      rotate_left
      · intro w' hSw
        have z0 := below_cell hSw z0; have z1 := below_cell hSw z1; have c1 := below_cell hSw c1
        go_simp <;> with_reducible rfl
      simp only [List.setIfInBounds_toArray, List.set_cons_succ, List.set_cons_zero]
      refine wpAnyH_takeD (i := 2) (v := ?_) 25 rfl (by kernel_rfl) (by kernel_rfl) (by kernel_rfl) (fun _ _ _ h => h) (Or.inl ⟨by rfl, ?_⟩) (by assumption) rfl ?_
      rotate_left
      · intro w' hSw
        have z0 := below_cell hSw z0; have z1 := below_cell hSw z1; have c1 := below_cell hSw c1
        go_simp <;> with_reducible rfl
      simp only [List.setIfInBounds_toArray, List.set_cons_succ, List.set_cons_zero]
      refine wpAnyH_takeD (i := 3) (v := ?_) 26 rfl (by kernel_rfl) (by kernel_rfl) (by kernel_rfl) (fun _ _ _ h => h) (Or.inl ⟨by rfl, ?_⟩) (by assumption) rfl ?_
      rotate_left
      · intro w' hSw
        have z0 := below_cell hSw z0; have z1 := below_cell hSw z1; have c1 := below_cell hSw c1
        go_simp <;> with_reducible rfl
      simp only [List.setIfInBounds_toArray, List.set_cons_succ, List.set_cons_zero]
      refine wpAnyH_takeD (i := 4) (v := ?_) 27 rfl (by kernel_rfl) (by kernel_rfl) (by kernel_rfl) (fun _ _ _ h => h) (Or.inl ⟨by rfl, ?_⟩) (by assumption) rfl ?_
      rotate_left
      · intro w' hSw
        have z0 := below_cell hSw z0; have z1 := below_cell hSw z1; have c1 := below_cell hSw c1
        go_simp <;> with_reducible rfl
      simp only [List.setIfInBounds_toArray, List.set_cons_succ, List.set_cons_zero]
      refine wpAnyH_takeD (i := 5) (v := ?_) 28 rfl (by kernel_rfl) (by kernel_rfl) (by kernel_rfl) (fun _ _ _ h => h) (Or.inl ⟨by rfl, ?_⟩) (by assumption) rfl ?_
      rotate_left
      · intro w' hSw
        have z0 := below_cell hSw z0; have z1 := below_cell hSw z1; have c1 := below_cell hSw c1
        go_simp <;> with_reducible rfl
      simp only [List.setIfInBounds_toArray, List.set_cons_succ, List.set_cons_zero]
      refine wpAnyH_takeD (i := 6) (v := ?_) 29 rfl (by kernel_rfl) (by kernel_rfl) (by kernel_rfl) (fun _ _ _ h => h) (Or.inl ⟨by rfl, ?_⟩) (by assumption) rfl ?_
      rotate_left
      · intro w' hSw
        have z0 := below_cell hSw z0; have z1 := below_cell hSw z1; have c1 := below_cell hSw c1
        go_simp <;> with_reducible rfl
      simp only [List.setIfInBounds_toArray, List.set_cons_succ, List.set_cons_zero]
      refine wpAnyH_ready (rs := [7]) (by kernel_rfl) (by simp) ?_
      refine AllReadyH.cons (o := _) rfl (fun K hK => ?_) AllReadyH.nil
      go_simp
      go_at_call 83
      refine (HPs.out _ (HB.out.trans (hHeld.mono HB.out.size))).mono ?_
      rintro e w41 ⟨rfl, hb41⟩
      have HV41 := Lib.hid (hHeld.trans (hb41.mono hHeld.size))
      clear hb41
      refine hK.out _ _ HV41.out (fun hHeld2 => ?_)
      clear hK K
      refine wpAnyH_done (by kernel_rfl) ?_ _
      clear hHeld hHeld2
      have HO1 := Lib.hid (own_below HO.out HV41.out)
      have HY1 := Lib.hid (HY.out.below HY.out.lt HV41.out)
      have HB1 := Lib.hid (HB.out.trans (HV41.out.mono HB.out.size))
      have HSz1 := Lib.hid (Nat.le_trans HSz.out HV41.out.size)
      clear HO HY HB HSz c1 z0 z1 HV41
      have c1 := below_cell HB1.out HD.out
      have z0 := HY1.out.cell 0 _ rfl
      have z1 := HY1.out.cell 1 _ rfl
      cases r with
      | false =>
        have HM2 := Lib.hid (HM.out.trans (by rw [if_neg (by decide), List.append_nil]))
        clear HM
        go_wp2
        go_roundw
        case rel => exact ⟨k + 1, by go_num, by omega, by rw [HM2.out]; exact HO1.out, HY1.out, HB1.out, HSz1.out⟩
        case measure => simp [intOf]; omega
      | true =>
        have HM2 := Lib.hid (HM.out.trans (by rw [if_pos rfl]))
        clear HM
        have HOa := Lib.hid (HO1.out.alloc (.cells #[.string s] 9))
        have HYa := Lib.hid (HY1.out.alloc (.cells #[.string s] 9))
        have HBa := Lib.hid (HB1.out.alloc HB1.out.size (.cells #[.string s] 9))
        have HS1 := Lib.hid (Sl.new (s := 1) w41 9 1 1 #[.string s] rfl (Nat.le_refl _) (by decide))
        go_wp2_with (at_builtin; refine appStr _ _ rfl rfl rfl rfl HOa.out HS1.out (by simp [Value.oneCell']) (N := ((ps.take k).filter (fun s => parB fs a s)).length + 1) (by simp) (by have := HLen.out; have := HP.out; omega) (by have := HSz1.out; simp; omega) ?_; intro A5 c5 w5 hap; have HB5 := Lib.hid (below_of_own hap.grown HOa.out HBa.out (by omega)); have HY5 := Lib.hid (HYa.out.kept hap.grown (fun e => by have := own_ge HOa.out e.symm; omega)); have HO5 := Lib.hid hap.own; have hg := hap.grown.size; have HSz5 := Lib.hid (show w.heap.size + 1 ≤ w5.heap.size by have := HSz1.out; simp at hg; omega); clear hap hg)
        go_roundw
        case rel => exact ⟨k + 1, by go_num, by omega, by rw [HM2.out, namesV_append, List.length_append]; exact HO5.out, HY5.out, HB5.out, HSz5.out⟩
        case measure => simp [intOf]; omega
    · have HKk := Lib.hid (show ps.take k = ps from List.take_of_length_le (by omega))
      have z0 := HY.out.cell 0 _ rfl
      have hq := Sl.of_own HO.out
      rw [show namesV ((ps.take k).filter (fun s => parB fs a s)) = namesV (ps.filter (fun s => parB fs a s)) by rw [HKk.out]] at hq
      have HQ := Lib.hid hq
      clear HKk hq
      go_wp2
      go_ret2
      exact ⟨HB.out, _, rfl, HQ.out⟩
theorem rparents_any (A : Option Addr) (n c : Nat) (F : Option Addr) (m d : Nat) (ps : List ByteArray) (fs : List Fa) (a : ByteArray) (w : World) (h : NetC w A n c F m d ps fs) (hs : Short ps) :
    Calls Tryz.prog 30 #[.agg #[.slice A n c, .slice F m d], .string a] w (NamesP (if namedF ps fs [a] = 0 then parentsF fs a else []) (namedF ps fs [a]) w) := by
  obtain ⟨e1, e2, _⟩ := h.many
  subst e1
  subst e2
  rcases namedF_cases ps fs [a, a] with hr | ⟨hc, hk, hp, hfew, hall⟩
  · have := rparents_bad _ hr A c F d ps fs a w h hs rfl
    rw [named_self] at this hr
    rw [if_neg (by omega)]
    exact this
  · have := rparents_good A c F d ps fs a w h hs hc hp
    rw [named_self] at hc
    rw [hc, if_pos rfl]
    have hck : namesOk ps = true ∧ AllAbout ps fs := by
      rcases checkF_cases ps fs with q | q | ⟨_, _, _, q1, q2⟩
      · omega
      · omega
      · exact ⟨q1, q2⟩
    rw [parents_ref hck.1 hck.2] at this
    exact this
set_option maxRecDepth 100000 in
set_option maxHeartbeats 8000000 in
theorem rchildren_bad (r : Int) (hr : r = 3 ∨ r = 100 ∨ r = 2) (A : Option Addr) (c : Nat) (F : Option Addr) (d : Nat) (ps : List ByteArray) (fs : List Fa) (a : ByteArray) (w : World) (h : NetC w A ps.length c F fs.length d ps fs) (hs : Short ps) (hc : namedF ps fs [a, a] = r) :
    Calls Tryz.prog 32 #[.agg #[.slice A ps.length c, .slice F fs.length d], .string a] w (NamesP [] r w) := by
  have hb0 := below_alloc' w (.cells #[.slice A ps.length c, .slice F fs.length d] 25)
  have y0 := Cel.new w 25 #[.slice A ps.length c, .slice F fs.length d]
  have HK := Lib.hid (asked_any A ps.length c F fs.length d ps fs a a _ (h.below hb0) hs)
  rw [hc] at HK
  clear h hs hc
  rcases hr with rfl | rfl | rfl
  all_goals
    go_enter Tryz.func32, Tryz.ntmps32
    go_wp2_with fail
    refine HK.out.mono ?_
    rintro e w1 ⟨rfl, hb1⟩
    have HB := Lib.hid (hb0.trans (hb1.mono hb0.size))
    have HY := Lib.hid (y0.below y0.lt hb1)
    clear hb0 hb1 y0 HK
    go_wp2
    go_ret2
    exact ⟨HB.out, _, rfl, Sl.nil0 _ _⟩
set_option maxRecDepth 100000 in
set_option maxHeartbeats 8000000 in
theorem rchildren_good (A : Option Addr) (c : Nat) (F : Option Addr) (d : Nat) (ps : List ByteArray) (fs : List Fa) (a : ByteArray) (w : World) (h : NetC w A ps.length c F fs.length d ps fs) (hs : Short ps) (hc : namedF ps fs [a, a] = 0) (hp : ps.length ≤ 24) :
    Calls Tryz.prog 32 #[.agg #[.slice A ps.length c, .slice F fs.length d], .string a] w (NamesP (ps.filter (fun s => parB fs s a)) 0 w) := by
  have hb0 := below_alloc' w (.cells #[.slice A ps.length c, .slice F fs.length d] 25)
  have y0 := Cel.new w 25 #[.slice A ps.length c, .slice F fs.length d]
  have HK := Lib.hid (asked_any A ps.length c F fs.length d ps fs a a _ (h.below hb0) hs)
  rw [hc] at HK
  have HPc := Lib.hid (fun q => h.person q)
  have HPa := Lib.hid (fun s w' (hw : Below w.heap.size w w') => parent_any A ps.length c F fs.length d ps fs s a w' (h.below hw))
  have HP := Lib.hid hp
  clear h hs hc
  go_enter Tryz.func32, Tryz.ntmps32
  go_wp2_with fail
  refine HK.out.mono ?_
  rintro e w1 ⟨rfl, hb1⟩
  have HB := Lib.hid (hb0.trans (hb1.mono hb0.size))
  have HY := Lib.hid (y0.below y0.lt hb1)
  clear hb0 hb1 y0 HK
  have HSz := Lib.hid (show w.heap.size + 1 ≤ w1.heap.size by have := HY.out.lt; omega)
  have HO := Lib.hid (World.ownsRow_nil w1 (w.heap.size + 1) 9 1)
  have HU := Lib.hid (Below.refl w1.heap.size w1)
  go_wp2
  go_loopw [7, 8] (fun v7 t8 wr => ∃ (k : Nat), t8 = .int .i64 k ∧ k ≤ ps.length ∧ Hid (wr.ownsRow (w.heap.size + 1) 9 1 v7 ((ps.take k).filter (fun s => parB fs s a)).length (namesV ((ps.take k).filter (fun s => parB fs s a)))) ∧ Hid (Cel wr w.heap.size 25 #[.slice A ps.length c, .slice F fs.length d]) ∧ Hid (Below w.heap.size w wr) ∧ Hid (w.heap.size + 1 ≤ wr.heap.size)) (fun _ t8 _ => ps.length - (intOf t8).toNat)
  case atStart => exact ⟨0, rfl, by omega, HO.out, HY.out, HB.out, HSz.out⟩
  case round =>
    clear HO HY HB HU HSz
    obtain ⟨k, rfl, hk, HO, HY, HB, HSz⟩ := hrel
    obtain ⟨Ab, cb, rfl, _⟩ := own_shape HO.out
    by_cases hlt : k < ps.length
    · have hki : (k : Int) < (ps.length : Int) := by omega
      have hk0 : (0 : Int) ≤ (k : Int) := by omega
      obtain ⟨b0, o0, rfl, _, hce⟩ := HPc.out (by omega)
      have hget : ps[k]? = some ps[k] := List.getElem?_eq_getElem hlt
      have HD := Lib.hid (hce k _ hget)
      have HM := Lib.hid (filter_snoc (fun s => parB fs s a) hget)
      have HLen := Lib.hid (filter_len (fun s => parB fs s a) ps k)
      have c1 := below_cell HB.out (hce k _ hget)
      have z0 := HY.out.cell 0 _ rfl
      have z1 := HY.out.cell 1 _ rfl
      clear hce hget
      generalize ps[k] = s at *
      have HPs := Lib.hid (HPa.out s)
      obtain ⟨r, hr⟩ : ∃ r, parB fs s a = r := ⟨_, rfl⟩
      simp only [hr] at HM HPs
      clear hr
      go_upto_region 8 with fail
      refine wp_region_held_drew (S := fun w' => Below wr.heap.size wr w') (by kernel_rfl) (below_drew (Below.refl _ _)) (fun hHeld => ?_)
      refine wpAnyH_takeD (i := 0) (v := ?_) 23 rfl (by kernel_rfl) (by kernel_rfl) (by kernel_rfl) (fun _ _ _ h => h) (Or.inl ⟨by rfl, ?_⟩) (by assumption) rfl ?_
      rotate_left
      · intro w' hSw
        have z0 := below_cell hSw z0; have z1 := below_cell hSw z1; have c1 := below_cell hSw c1
        go_simp <;> with_reducible rfl
      simp only [List.setIfInBounds_toArray, List.set_cons_succ, List.set_cons_zero]
      refine wpAnyH_takeD (i := 1) (v := ?_) 24 rfl (by kernel_rfl) (by kernel_rfl) (by kernel_rfl) (fun _ _ _ h => h) (Or.inl ⟨by rfl, ?_⟩) (by assumption) rfl ?_
      rotate_left
      · intro w' hSw
        have z0 := below_cell hSw z0; have z1 := below_cell hSw z1; have c1 := below_cell hSw c1
        go_simp <;> with_reducible rfl
      simp only [List.setIfInBounds_toArray, List.set_cons_succ, List.set_cons_zero]
      refine wpAnyH_takeD (i := 2) (v := ?_) 25 rfl (by kernel_rfl) (by kernel_rfl) (by kernel_rfl) (fun _ _ _ h => h) (Or.inl ⟨by rfl, ?_⟩) (by assumption) rfl ?_
      rotate_left
      · intro w' hSw
        have z0 := below_cell hSw z0; have z1 := below_cell hSw z1; have c1 := below_cell hSw c1
        go_simp <;> with_reducible rfl
      simp only [List.setIfInBounds_toArray, List.set_cons_succ, List.set_cons_zero]
      refine wpAnyH_takeD (i := 3) (v := ?_) 26 rfl (by kernel_rfl) (by kernel_rfl) (by kernel_rfl) (fun _ _ _ h => h) (Or.inl ⟨by rfl, ?_⟩) (by assumption) rfl ?_
      rotate_left
      · intro w' hSw
        have z0 := below_cell hSw z0; have z1 := below_cell hSw z1; have c1 := below_cell hSw c1
        go_simp <;> with_reducible rfl
      simp only [List.setIfInBounds_toArray, List.set_cons_succ, List.set_cons_zero]
      refine wpAnyH_takeD (i := 4) (v := ?_) 27 rfl (by kernel_rfl) (by kernel_rfl) (by kernel_rfl) (fun _ _ _ h => h) (Or.inl ⟨by rfl, ?_⟩) (by assumption) rfl ?_
      rotate_left
      · intro w' hSw
        have z0 := below_cell hSw z0; have z1 := below_cell hSw z1; have c1 := below_cell hSw c1
        go_simp <;> with_reducible rfl
      simp only [List.setIfInBounds_toArray, List.set_cons_succ, List.set_cons_zero]
      refine wpAnyH_takeD (i := 5) (v := ?_) 28 rfl (by kernel_rfl) (by kernel_rfl) (by kernel_rfl) (fun _ _ _ h => h) (Or.inl ⟨by rfl, ?_⟩) (by assumption) rfl ?_
      rotate_left
      · intro w' hSw
        have z0 := below_cell hSw z0; have z1 := below_cell hSw z1; have c1 := below_cell hSw c1
        go_simp <;> with_reducible rfl
      simp only [List.setIfInBounds_toArray, List.set_cons_succ, List.set_cons_zero]
      refine wpAnyH_takeD (i := 6) (v := ?_) 29 rfl (by kernel_rfl) (by kernel_rfl) (by kernel_rfl) (fun _ _ _ h => h) (Or.inl ⟨by rfl, ?_⟩) (by assumption) rfl ?_
      rotate_left
      · intro w' hSw
        have z0 := below_cell hSw z0; have z1 := below_cell hSw z1; have c1 := below_cell hSw c1
        go_simp <;> with_reducible rfl
      simp only [List.setIfInBounds_toArray, List.set_cons_succ, List.set_cons_zero]
      refine wpAnyH_ready (rs := [7]) (by kernel_rfl) (by simp) ?_
      refine AllReadyH.cons (o := _) rfl (fun K hK => ?_) AllReadyH.nil
      go_simp
      go_at_call 83
      refine (HPs.out _ (HB.out.trans (hHeld.mono HB.out.size))).mono ?_
      rintro e w41 ⟨rfl, hb41⟩
      have HV41 := Lib.hid (hHeld.trans (hb41.mono hHeld.size))
      clear hb41
      refine hK.out _ _ HV41.out (fun hHeld2 => ?_)
      clear hK K
      refine wpAnyH_done (by kernel_rfl) ?_ _
      clear hHeld hHeld2
      have HO1 := Lib.hid (own_below HO.out HV41.out)
      have HY1 := Lib.hid (HY.out.below HY.out.lt HV41.out)
      have HB1 := Lib.hid (HB.out.trans (HV41.out.mono HB.out.size))
      have HSz1 := Lib.hid (Nat.le_trans HSz.out HV41.out.size)
      clear HO HY HB HSz c1 z0 z1 HV41
      have c1 := below_cell HB1.out HD.out
      have z0 := HY1.out.cell 0 _ rfl
      have z1 := HY1.out.cell 1 _ rfl
      cases r with
      | false =>
        have HM2 := Lib.hid (HM.out.trans (by rw [if_neg (by decide), List.append_nil]))
        clear HM
        go_wp2
        go_roundw
        case rel => exact ⟨k + 1, by go_num, by omega, by rw [HM2.out]; exact HO1.out, HY1.out, HB1.out, HSz1.out⟩
        case measure => simp [intOf]; omega
      | true =>
        have HM2 := Lib.hid (HM.out.trans (by rw [if_pos rfl]))
        clear HM
        have HOa := Lib.hid (HO1.out.alloc (.cells #[.string s] 9))
        have HYa := Lib.hid (HY1.out.alloc (.cells #[.string s] 9))
        have HBa := Lib.hid (HB1.out.alloc HB1.out.size (.cells #[.string s] 9))
        have HS1 := Lib.hid (Sl.new (s := 1) w41 9 1 1 #[.string s] rfl (Nat.le_refl _) (by decide))
        go_wp2_with (at_builtin; refine appStr _ _ rfl rfl rfl rfl HOa.out HS1.out (by simp [Value.oneCell']) (N := ((ps.take k).filter (fun s => parB fs s a)).length + 1) (by simp) (by have := HLen.out; have := HP.out; omega) (by have := HSz1.out; simp; omega) ?_; intro A5 c5 w5 hap; have HB5 := Lib.hid (below_of_own hap.grown HOa.out HBa.out (by omega)); have HY5 := Lib.hid (HYa.out.kept hap.grown (fun e => by have := own_ge HOa.out e.symm; omega)); have HO5 := Lib.hid hap.own; have hg := hap.grown.size; have HSz5 := Lib.hid (show w.heap.size + 1 ≤ w5.heap.size by have := HSz1.out; simp at hg; omega); clear hap hg)
        go_roundw
        case rel => exact ⟨k + 1, by go_num, by omega, by rw [HM2.out, namesV_append, List.length_append]; exact HO5.out, HY5.out, HB5.out, HSz5.out⟩
        case measure => simp [intOf]; omega
    · have HKk := Lib.hid (show ps.take k = ps from List.take_of_length_le (by omega))
      have z0 := HY.out.cell 0 _ rfl
      have hq := Sl.of_own HO.out
      rw [show namesV ((ps.take k).filter (fun s => parB fs s a)) = namesV (ps.filter (fun s => parB fs s a)) by rw [HKk.out]] at hq
      have HQ := Lib.hid hq
      clear HKk hq
      go_wp2
      go_ret2
      exact ⟨HB.out, _, rfl, HQ.out⟩
theorem rchildren_any (A : Option Addr) (n c : Nat) (F : Option Addr) (m d : Nat) (ps : List ByteArray) (fs : List Fa) (a : ByteArray) (w : World) (h : NetC w A n c F m d ps fs) (hs : Short ps) :
    Calls Tryz.prog 32 #[.agg #[.slice A n c, .slice F m d], .string a] w (NamesP (if namedF ps fs [a] = 0 then childrenF fs a else []) (namedF ps fs [a]) w) := by
  obtain ⟨e1, e2, _⟩ := h.many
  subst e1
  subst e2
  rcases namedF_cases ps fs [a, a] with hr | ⟨hc, hk, hp, hfew, hall⟩
  · have := rchildren_bad _ hr A c F d ps fs a w h hs rfl
    rw [named_self] at this hr
    rw [if_neg (by omega)]
    exact this
  · have := rchildren_good A c F d ps fs a w h hs hc hp
    rw [named_self] at hc
    rw [hc, if_pos rfl]
    have hck : namesOk ps = true ∧ AllAbout ps fs := by
      rcases checkF_cases ps fs with q | q | ⟨_, _, _, q1, q2⟩
      · omega
      · omega
      · exact ⟨q1, q2⟩
    rw [children_ref hck.1 hck.2] at this
    exact this
end Go.Proofs.YtdmcopjbckelmaaGreatDoor
