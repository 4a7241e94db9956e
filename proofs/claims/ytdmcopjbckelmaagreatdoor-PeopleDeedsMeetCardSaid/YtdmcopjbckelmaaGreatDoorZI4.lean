/- Walks of the reference: Parents, Children. Conditions: those stated. Walks of the reference: steps. Conditions: those stated. Walks of the reference: Kin. Conditions: those stated. Walks of the reference: Ancestors. Conditions: those stated. -/
import Derived.Test.YtdmcopjbckelmaaGreatDoorZI1
import Derived.Test.YtdmcopjbckelmaaGreatDoorZF1
import Derived.BigQuiet
import Derived.Laws.MakeOwn
import Derived.Laws.Entries
namespace Go.Proofs.YtdmcopjbckelmaaGreatDoor
section
open Go Go.RowKit Go.Shelf
attribute [local go_sem] Oper.semAt_some

theorem filter_snoc {ps : List ByteArray} {k : Nat} {s : ByteArray} (P : ByteArray → Bool) (h : ps[k]? = some s) : (ps.take (k + 1)).filter P = (ps.take k).filter P ++ (if P s then [s] else []) := by
  rw [List.take_add_one, h, List.filter_append]
  congr 1
  by_cases e : P s <;> simp [e]
theorem filter_len (P : ByteArray → Bool) (ps : List ByteArray) (k : Nat) : ((ps.take k).filter P).length ≤ k := Nat.le_trans (List.length_filter_le _ _) (by simp; omega)
theorem named_self (ps : List ByteArray) (fs : List Fa) (a : ByteArray) : namedF ps fs [a, a] = namedF ps fs [a] := by
  unfold namedF allN
  split
  · rfl
  · simp only [List.all_cons, List.all_nil, Bool.and_true, Bool.and_self]
set_option maxRecDepth 100000 in
set_option maxHeartbeats 8000000 in
theorem rparents_bad (r : Int) (hr : r = 3 ∨ r = 100 ∨ r = 2) (A : Option Addr) (c : Nat) (F : Option Addr) (d : Nat) (ps : List ByteArray) (fs : List Fa) (a : ByteArray) (w : World) (h : NetC w A ps.length c F fs.length d ps fs) (hs : Short ps) (hc : namedF ps fs [a, a] = r) :
    Calls Tryz.prog 30 #[.agg #[.slice A ps.length c, .slice F fs.length d], .string a] w (NamesP [] r w) := by
  have hb0 := below_alloc' w (.cells #[.slice A ps.length c, .slice F fs.length d] 25)
  have y0 := Cel.new w 25 #[.slice A ps.length c, .slice F fs.length d]
  have HK := Lib.hid (asked_any A ps.length c F fs.length d ps fs a a _ (h.below hb0) hs)
  rw [hc] at HK
  clear h hs hc
  rcases hr with rfl | rfl | rfl
  all_goals
    go_enter Tryz.func30, Tryz.ntmps30
    go_wp2_with fail
    refine HK.out.mono ?_
    rintro e w1 ⟨rfl, hb1⟩
    have HB := Lib.hid (hb0.trans (hb1.mono hb0.size))
    have HY := Lib.hid (y0.below y0.lt hb1)
    clear hb0 hb1 y0 HK
    go_wp2
    go_ret2
    exact ⟨HB.out, _, rfl, Sl.nil0 _ _⟩
set_option maxRecDepth 100000 in
set_option maxHeartbeats 8000000 in
theorem rparents_good (A : Option Addr) (c : Nat) (F : Option Addr) (d : Nat) (ps : List ByteArray) (fs : List Fa) (a : ByteArray) (w : World) (h : NetC w A ps.length c F fs.length d ps fs) (hs : Short ps) (hc : namedF ps fs [a, a] = 0) (hp : ps.length ≤ 24) :
    Calls Tryz.prog 30 #[.agg #[.slice A ps.length c, .slice F fs.length d], .string a] w (NamesP (ps.filter (fun s => parB fs a s)) 0 w) := by
  have hb0 := below_alloc' w (.cells #[.slice A ps.length c, .slice F fs.length d] 25)
  have y0 := Cel.new w 25 #[.slice A ps.length c, .slice F fs.length d]
  have HK := Lib.hid (asked_any A ps.length c F fs.length d ps fs a a _ (h.below hb0) hs)
  rw [hc] at HK
  have HPc := Lib.hid (fun q => h.person q)
  have HPa := Lib.hid (fun s w' (hw : Below w.heap.size w w') => parent_any A ps.length c F fs.length d ps fs a s w' (h.below hw))
  have HP := Lib.hid hp
  clear h hs hc
  go_enter Tryz.func30, Tryz.ntmps30
  go_wp2_with fail
  refine HK.out.mono ?_
  rintro e w1 ⟨rfl, hb1⟩
  have HB := Lib.hid (hb0.trans (hb1.mono hb0.size))
  have HY := Lib.hid (y0.below y0.lt hb1)
  clear hb0 hb1 y0 HK
  have HSz := Lib.hid (show w.heap.size + 1 ≤ w1.heap.size by have := HY.out.lt; omega)
  have HO := Lib.hid (World.ownsRow_nil w1 (w.heap.size + 1) 9 1)
  have HU := Lib.hid (Below.refl w1.heap.size w1)
  go_wp2
  go_loopw [7, 8] (fun v7 t8 wr => ∃ (k : Nat), t8 = .int .i64 k ∧ k ≤ ps.length ∧ Hid (wr.ownsRow (w.heap.size + 1) 9 1 v7 ((ps.take k).filter (fun s => parB fs a s)).length (namesV ((ps.take k).filter (fun s => parB fs a s)))) ∧ Hid (Cel wr w.heap.size 25 #[.slice A ps.length c, .slice F fs.length d]) ∧ Hid (Below w.heap.size w wr) ∧ Hid (w.heap.size + 1 ≤ wr.heap.size)) (fun _ t8 _ => ps.length - (intOf t8).toNat)
  case atStart => exact ⟨0, rfl, by omega, HO.out, HY.out, HB.out, HSz.out⟩
  case round =>
    clear HO HY HB HU HSz
    obtain ⟨k, rfl, hk, HO, HY, HB, HSz⟩ := hrel
    obtain ⟨Ab, cb, rfl, _⟩ := own_shape HO.out
    by_cases hlt : k < ps.length
    · have hki : (k : Int) < (ps.length : Int) := by omega
      have hk0 : (0 : Int) ≤ (k : Int) := by omega
      obtain ⟨b0, o0, rfl, _, hce⟩ := HPc.out (by omega)
      have hget : ps[k]? = some ps[k] := List.getElem?_eq_getElem hlt
      have HD := Lib.hid (hce k _ hget)
      have HM := Lib.hid (filter_snoc (fun s => parB fs a s) hget)
      have HLen := Lib.hid (filter_len (fun s => parB fs a s) ps k)
      have c1 := below_cell HB.out (hce k _ hget)
      have z0 := HY.out.cell 0 _ rfl
      have z1 := HY.out.cell 1 _ rfl
      clear hce hget
      generalize ps[k] = s at *
      have HPs := Lib.hid (HPa.out s)
      obtain ⟨r, hr⟩ : ∃ r, parB fs a s = r := ⟨_, rfl⟩
      simp only [hr] at HM HPs
      clear hr
      go_upto_region 8 with fail
      refine wp_region_held_drew (S := fun w' => Below wr.heap.size wr w') (by kernel_rfl) (below_drew (Below.refl _ _)) (fun hHeld => ?_)
      refine wpAnyH_takeD (i := 0) (v := ?_) 23 rfl (by kernel_rfl) (by kernel_rfl) (by kernel_rfl) (fun _ _ _ h => h) (Or.inl ⟨by rfl, ?_⟩) (by assumption) rfl ?_
      rotate_left
      · intro w' hSw
        have z0 := below_cell hSw z0; have z1 := below_cell hSw z1; have c1 := below_cell hSw c1
        go_simp <;> with_reducible rfl
      simp only [List.setIfInBounds_toArray, List.set_cons_succ, List.set_cons_zero]
      refine wpAnyH_takeD (i := 1) (v := ?_) 24 rfl (by kernel_rfl) (by kernel_rfl) (by kernel_rfl) (fun _ _ _ h => h) (Or.inl ⟨by rfl, ?_⟩) (by assumption) rfl ?_
      rotate_left
      · intro w' hSw
        have z0 := below_cell hSw z0; have z1 := below_cell hSw z1; have c1 := below_cell hSw c1
        go_simp <;> with_reducible rfl
      simp only [List.setIfInBounds_toArray, List.set_cons_succ, List.set_cons_zero]
      refine wpAnyH_takeD (i := 2) (v := ?_) 25 rfl (by kernel_rfl) (by kernel_rfl) (by kernel_rfl) (fun _ _ _ h => h) (Or.inl ⟨by rfl, ?_⟩) (by assumption) rfl ?_
      rotate_left
      · intro w' hSw
        have z0 := below_cell hSw z0; have z1 := below_cell hSw z1; have c1 := below_cell hSw c1
        go_simp <;> with_reducible rfl
      simp only [List.setIfInBounds_toArray, List.set_cons_succ, List.set_cons_zero]
      refine wpAnyH_takeD (i := 3) (v := ?_) 26 rfl (by kernel_rfl) (by kernel_rfl) (by kernel_rfl) (fun _ _ _ h => h) (Or.inl ⟨by rfl, ?_⟩) (by assumption) rfl ?_
      rotate_left
      · intro w' hSw
        have z0 := below_cell hSw z0; have z1 := below_cell hSw z1; have c1 := below_cell hSw c1
        go_simp <;> with_reducible rfl
      simp only [List.setIfInBounds_toArray, List.set_cons_succ, List.set_cons_zero]
      refine wpAnyH_takeD (i := 4) (v := ?_) 27 rfl (by kernel_rfl) (by kernel_rfl) (by kernel_rfl) (fun _ _ _ h => h) (Or.inl ⟨by rfl, ?_⟩) (by assumption) rfl ?_
      rotate_left
      · intro w' hSw
        have z0 := below_cell hSw z0; have z1 := below_cell hSw z1; have c1 := below_cell hSw c1
        go_simp <;> with_reducible rfl
      simp only [List.setIfInBounds_toArray, List.set_cons_succ, List.set_cons_zero]
      refine wpAnyH_takeD (i := 5) (v := ?_) 28 rfl (by kernel_rfl) (by kernel_rfl) (by kernel_rfl) (fun _ _ _ h => h) (Or.inl ⟨by rfl, ?_⟩) (by assumption) rfl ?_
      rotate_left
      · intro w' hSw
        have z0 := below_cell hSw z0; have z1 := below_cell hSw z1; have c1 := below_cell hSw c1
        go_simp <;> with_reducible rfl
      simp only [List.setIfInBounds_toArray, List.set_cons_succ, List.set_cons_zero]
      refine wpAnyH_takeD (i := 6) (v := ?_) 29 rfl (by kernel_rfl) (by kernel_rfl) (by kernel_rfl) (fun _ _ _ h => h) (Or.inl ⟨by rfl, ?_⟩) (by assumption) rfl ?_
      rotate_left
      · intro w' hSw
        have z0 := below_cell hSw z0; have z1 := below_cell hSw z1; have c1 := below_cell hSw c1
        go_simp <;> with_reducible rfl
      simp only [List.setIfInBounds_toArray, List.set_cons_succ, List.set_cons_zero]
      refine wpAnyH_ready (rs := [7]) (by kernel_rfl) (by simp) ?_
      refine AllReadyH.cons (o := _) rfl (fun K hK => ?_) AllReadyH.nil
      go_simp
      go_at_call 83
      refine (HPs.out _ (HB.out.trans (hHeld.mono HB.out.size))).mono ?_
      rintro e w41 ⟨rfl, hb41⟩
      have HV41 := Lib.hid (hHeld.trans (hb41.mono hHeld.size))
      clear hb41
      refine hK.out _ _ HV41.out (fun hHeld2 => ?_)
      clear hK K
      refine wpAnyH_done (by kernel_rfl) ?_ _
      clear hHeld hHeld2
      have HO1 := Lib.hid (own_below HO.out HV41.out)
      have HY1 := Lib.hid (HY.out.below HY.out.lt HV41.out)
      have HB1 := Lib.hid (HB.out.trans (HV41.out.mono HB.out.size))
      have HSz1 := Lib.hid (Nat.le_trans HSz.out HV41.out.size)
      clear HO HY HB HSz c1 z0 z1 HV41
      have c1 := below_cell HB1.out HD.out
      have z0 := HY1.out.cell 0 _ rfl
      have z1 := HY1.out.cell 1 _ rfl
      cases r with
      | false =>
        have HM2 := Lib.hid (HM.out.trans (by rw [if_neg (by decide), List.append_nil]))
        clear HM
        go_wp2
        go_roundw
        case rel => exact ⟨k + 1, by go_num, by omega, by rw [HM2.out]; exact HO1.out, HY1.out, HB1.out, HSz1.out⟩
        case measure => simp [intOf]; omega
      | true =>
        have HM2 := Lib.hid (HM.out.trans (by rw [if_pos rfl]))
        clear HM
        have HOa := Lib.hid (HO1.out.alloc (.cells #[.string s] 9))
        have HYa := Lib.hid (HY1.out.alloc (.cells #[.string s] 9))
        have HBa := Lib.hid (HB1.out.alloc HB1.out.size (.cells #[.string s] 9))
        have HS1 := Lib.hid (Sl.new (s := 1) w41 9 1 1 #[.string s] rfl (Nat.le_refl _) (by decide))
        go_wp2_with (at_builtin; refine appStr _ _ rfl rfl rfl rfl HOa.out HS1.out (by simp [Value.oneCell']) (N := ((ps.take k).filter (fun s => parB fs a s)).length + 1) (by simp) (by have := HLen.out; have := HP.out; omega) (by have := HSz1.out; simp; omega) ?_; intro A5 c5 w5 hap; have HB5 := Lib.hid (below_of_own hap.grown HOa.out HBa.out (by omega)); have HY5 := Lib.hid (HYa.out.kept hap.grown (fun e => by have := own_ge HOa.out e.symm; omega)); have HO5 := Lib.hid hap.own; have hg := hap.grown.size; have HSz5 := Lib.hid (show w.heap.size + 1 ≤ w5.heap.size by have := HSz1.out; simp at hg; omega); clear hap hg)
        go_roundw
        case rel => exact ⟨k + 1, by go_num, by omega, by rw [HM2.out, namesV_append, List.length_append]; exact HO5.out, HY5.out, HB5.out, HSz5.out⟩
        case measure => simp [intOf]; omega
    · have HKk := Lib.hid (show ps.take k = ps from List.take_of_length_le (by omega))
      have z0 := HY.out.cell 0 _ rfl
      have hq := Sl.of_own HO.out
      rw [show namesV ((ps.take k).filter (fun s => parB fs a s)) = namesV (ps.filter (fun s => parB fs a s)) by rw [HKk.out]] at hq
      have HQ := Lib.hid hq
      clear HKk hq
      go_wp2
      go_ret2
      exact ⟨HB.out, _, rfl, HQ.out⟩
theorem rparents_any (A : Option Addr) (n c : Nat) (F : Option Addr) (m d : Nat) (ps : List ByteArray) (fs : List Fa) (a : ByteArray) (w : World) (h : NetC w A n c F m d ps fs) (hs : Short ps) :
    Calls Tryz.prog 30 #[.agg #[.slice A n c, .slice F m d], .string a] w (NamesP (if namedF ps fs [a] = 0 then parentsF fs a else []) (namedF ps fs [a]) w) := by
  obtain ⟨e1, e2, _⟩ := h.many
  subst e1
  subst e2
  rcases namedF_cases ps fs [a, a] with hr | ⟨hc, hk, hp, hfew, hall⟩
  · have := rparents_bad _ hr A c F d ps fs a w h hs rfl
    rw [named_self] at this hr
    rw [if_neg (by omega)]
    exact this
  · have := rparents_good A c F d ps fs a w h hs hc hp
    rw [named_self] at hc
    rw [hc, if_pos rfl]
    have hck : namesOk ps = true ∧ AllAbout ps fs := by
      rcases checkF_cases ps fs with q | q | ⟨_, _, _, q1, q2⟩
      · omega
      · omega
      · exact ⟨q1, q2⟩
    rw [parents_ref hck.1 hck.2] at this
    exact this
set_option maxRecDepth 100000 in
set_option maxHeartbeats 8000000 in
theorem rchildren_bad (r : Int) (hr : r = 3 ∨ r = 100 ∨ r = 2) (A : Option Addr) (c : Nat) (F : Option Addr) (d : Nat) (ps : List ByteArray) (fs : List Fa) (a : ByteArray) (w : World) (h : NetC w A ps.length c F fs.length d ps fs) (hs : Short ps) (hc : namedF ps fs [a, a] = r) :
    Calls Tryz.prog 32 #[.agg #[.slice A ps.length c, .slice F fs.length d], .string a] w (NamesP [] r w) := by
  have hb0 := below_alloc' w (.cells #[.slice A ps.length c, .slice F fs.length d] 25)
  have y0 := Cel.new w 25 #[.slice A ps.length c, .slice F fs.length d]
  have HK := Lib.hid (asked_any A ps.length c F fs.length d ps fs a a _ (h.below hb0) hs)
  rw [hc] at HK
  clear h hs hc
  rcases hr with rfl | rfl | rfl
  all_goals
    go_enter Tryz.func32, Tryz.ntmps32
    go_wp2_with fail
    refine HK.out.mono ?_
    rintro e w1 ⟨rfl, hb1⟩
    have HB := Lib.hid (hb0.trans (hb1.mono hb0.size))
    have HY := Lib.hid (y0.below y0.lt hb1)
    clear hb0 hb1 y0 HK
    go_wp2
    go_ret2
    exact ⟨HB.out, _, rfl, Sl.nil0 _ _⟩
set_option maxRecDepth 100000 in
set_option maxHeartbeats 8000000 in
theorem rchildren_good (A : Option Addr) (c : Nat) (F : Option Addr) (d : Nat) (ps : List ByteArray) (fs : List Fa) (a : ByteArray) (w : World) (h : NetC w A ps.length c F fs.length d ps fs) (hs : Short ps) (hc : namedF ps fs [a, a] = 0) (hp : ps.length ≤ 24) :
    Calls Tryz.prog 32 #[.agg #[.slice A ps.length c, .slice F fs.length d], .string a] w (NamesP (ps.filter (fun s => parB fs s a)) 0 w) := by
  have hb0 := below_alloc' w (.cells #[.slice A ps.length c, .slice F fs.length d] 25)
  have y0 := Cel.new w 25 #[.slice A ps.length c, .slice F fs.length d]
  have HK := Lib.hid (asked_any A ps.length c F fs.length d ps fs a a _ (h.below hb0) hs)
  rw [hc] at HK
  have HPc := Lib.hid (fun q => h.person q)
  have HPa := Lib.hid (fun s w' (hw : Below w.heap.size w w') => parent_any A ps.length c F fs.length d ps fs s a w' (h.below hw))
  have HP := Lib.hid hp
  clear h hs hc
  go_enter Tryz.func32, Tryz.ntmps32
  go_wp2_with fail
  refine HK.out.mono ?_
  rintro e w1 ⟨rfl, hb1⟩
  have HB := Lib.hid (hb0.trans (hb1.mono hb0.size))
  have HY := Lib.hid (y0.below y0.lt hb1)
  clear hb0 hb1 y0 HK
  have HSz := Lib.hid (show w.heap.size + 1 ≤ w1.heap.size by have := HY.out.lt; omega)
  have HO := Lib.hid (World.ownsRow_nil w1 (w.heap.size + 1) 9 1)
  have HU := Lib.hid (Below.refl w1.heap.size w1)
  go_wp2
  go_loopw [7, 8] (fun v7 t8 wr => ∃ (k : Nat), t8 = .int .i64 k ∧ k ≤ ps.length ∧ Hid (wr.ownsRow (w.heap.size + 1) 9 1 v7 ((ps.take k).filter (fun s => parB fs s a)).length (namesV ((ps.take k).filter (fun s => parB fs s a)))) ∧ Hid (Cel wr w.heap.size 25 #[.slice A ps.length c, .slice F fs.length d]) ∧ Hid (Below w.heap.size w wr) ∧ Hid (w.heap.size + 1 ≤ wr.heap.size)) (fun _ t8 _ => ps.length - (intOf t8).toNat)
  case atStart => exact ⟨0, rfl, by omega, HO.out, HY.out, HB.out, HSz.out⟩
  case round =>
    clear HO HY HB HU HSz
    obtain ⟨k, rfl, hk, HO, HY, HB, HSz⟩ := hrel
    obtain ⟨Ab, cb, rfl, _⟩ := own_shape HO.out
    by_cases hlt : k < ps.length
    · have hki : (k : Int) < (ps.length : Int) := by omega
      have hk0 : (0 : Int) ≤ (k : Int) := by omega
      obtain ⟨b0, o0, rfl, _, hce⟩ := HPc.out (by omega)
      have hget : ps[k]? = some ps[k] := List.getElem?_eq_getElem hlt
      have HD := Lib.hid (hce k _ hget)
      have HM := Lib.hid (filter_snoc (fun s => parB fs s a) hget)
      have HLen := Lib.hid (filter_len (fun s => parB fs s a) ps k)
      have c1 := below_cell HB.out (hce k _ hget)
      have z0 := HY.out.cell 0 _ rfl
      have z1 := HY.out.cell 1 _ rfl
      clear hce hget
      generalize ps[k] = s at *
      have HPs := Lib.hid (HPa.out s)
      obtain ⟨r, hr⟩ : ∃ r, parB fs s a = r := ⟨_, rfl⟩
      simp only [hr] at HM HPs
      clear hr
      go_upto_region 8 with fail
      refine wp_region_held_drew (S := fun w' => Below wr.heap.size wr w') (by kernel_rfl) (below_drew (Below.refl _ _)) (fun hHeld => ?_)
      refine wpAnyH_takeD (i := 0) (v := ?_) 23 rfl (by kernel_rfl) (by kernel_rfl) (by kernel_rfl) (fun _ _ _ h => h) (Or.inl ⟨by rfl, ?_⟩) (by assumption) rfl ?_
      rotate_left
      · intro w' hSw
        have z0 := below_cell hSw z0; have z1 := below_cell hSw z1; have c1 := below_cell hSw c1
        go_simp <;> with_reducible rfl
      simp only [List.setIfInBounds_toArray, List.set_cons_succ, List.set_cons_zero]
      refine wpAnyH_takeD (i := 1) (v := ?_) 24 rfl (by kernel_rfl) (by kernel_rfl) (by kernel_rfl) (fun _ _ _ h => h) (Or.inl ⟨by rfl, ?_⟩) (by assumption) rfl ?_
      rotate_left
      · intro w' hSw
        have z0 := below_cell hSw z0; have z1 := below_cell hSw z1; have c1 := below_cell hSw c1
        go_simp <;> with_reducible rfl
      simp only [List.setIfInBounds_toArray, List.set_cons_succ, List.set_cons_zero]
      refine wpAnyH_takeD (i := 2) (v := ?_) 25 rfl (by kernel_rfl) (by kernel_rfl) (by kernel_rfl) (fun _ _ _ h => h) (Or.inl ⟨by rfl, ?_⟩) (by assumption) rfl ?_
      rotate_left
      · intro w' hSw
        have z0 := below_cell hSw z0; have z1 := below_cell hSw z1; have c1 := below_cell hSw c1
        go_simp <;> with_reducible rfl
      simp only [List.setIfInBounds_toArray, List.set_cons_succ, List.set_cons_zero]
      refine wpAnyH_takeD (i := 3) (v := ?_) 26 rfl (by kernel_rfl) (by kernel_rfl) (by kernel_rfl) (fun _ _ _ h => h) (Or.inl ⟨by rfl, ?_⟩) (by assumption) rfl ?_
      rotate_left
      · intro w' hSw
        have z0 := below_cell hSw z0; have z1 := below_cell hSw z1; have c1 := below_cell hSw c1
        go_simp <;> with_reducible rfl
      simp only [List.setIfInBounds_toArray, List.set_cons_succ, List.set_cons_zero]
      refine wpAnyH_takeD (i := 4) (v := ?_) 27 rfl (by kernel_rfl) (by kernel_rfl) (by kernel_rfl) (fun _ _ _ h => h) (Or.inl ⟨by rfl, ?_⟩) (by assumption) rfl ?_
      rotate_left
      · intro w' hSw
        have z0 := below_cell hSw z0; have z1 := below_cell hSw z1; have c1 := below_cell hSw c1
        go_simp <;> with_reducible rfl
      simp only [List.setIfInBounds_toArray, List.set_cons_succ, List.set_cons_zero]
      refine wpAnyH_takeD (i := 5) (v := ?_) 28 rfl (by kernel_rfl) (by kernel_rfl) (by kernel_rfl) (fun _ _ _ h => h) (Or.inl ⟨by rfl, ?_⟩) (by assumption) rfl ?_
      rotate_left
      · intro w' hSw
        have z0 := below_cell hSw z0; have z1 := below_cell hSw z1; have c1 := below_cell hSw c1
        go_simp <;> with_reducible rfl
      simp only [List.setIfInBounds_toArray, List.set_cons_succ, List.set_cons_zero]
      refine wpAnyH_takeD (i := 6) (v := ?_) 29 rfl (by kernel_rfl) (by kernel_rfl) (by kernel_rfl) (fun _ _ _ h => h) (Or.inl ⟨by rfl, ?_⟩) (by assumption) rfl ?_
      rotate_left
      · intro w' hSw
        have z0 := below_cell hSw z0; have z1 := below_cell hSw z1; have c1 := below_cell hSw c1
        go_simp <;> with_reducible rfl
      simp only [List.setIfInBounds_toArray, List.set_cons_succ, List.set_cons_zero]
      refine wpAnyH_ready (rs := [7]) (by kernel_rfl) (by simp) ?_
      refine AllReadyH.cons (o := _) rfl (fun K hK => ?_) AllReadyH.nil
      go_simp
      go_at_call 83
      refine (HPs.out _ (HB.out.trans (hHeld.mono HB.out.size))).mono ?_
      rintro e w41 ⟨rfl, hb41⟩
      have HV41 := Lib.hid (hHeld.trans (hb41.mono hHeld.size))
      clear hb41
      refine hK.out _ _ HV41.out (fun hHeld2 => ?_)
      clear hK K
      refine wpAnyH_done (by kernel_rfl) ?_ _
      clear hHeld hHeld2
      have HO1 := Lib.hid (own_below HO.out HV41.out)
      have HY1 := Lib.hid (HY.out.below HY.out.lt HV41.out)
      have HB1 := Lib.hid (HB.out.trans (HV41.out.mono HB.out.size))
      have HSz1 := Lib.hid (Nat.le_trans HSz.out HV41.out.size)
      clear HO HY HB HSz c1 z0 z1 HV41
      have c1 := below_cell HB1.out HD.out
      have z0 := HY1.out.cell 0 _ rfl
      have z1 := HY1.out.cell 1 _ rfl
      cases r with
      | false =>
        have HM2 := Lib.hid (HM.out.trans (by rw [if_neg (by decide), List.append_nil]))
        clear HM
        go_wp2
        go_roundw
        case rel => exact ⟨k + 1, by go_num, by omega, by rw [HM2.out]; exact HO1.out, HY1.out, HB1.out, HSz1.out⟩
        case measure => simp [intOf]; omega
      | true =>
        have HM2 := Lib.hid (HM.out.trans (by rw [if_pos rfl]))
        clear HM
        have HOa := Lib.hid (HO1.out.alloc (.cells #[.string s] 9))
        have HYa := Lib.hid (HY1.out.alloc (.cells #[.string s] 9))
        have HBa := Lib.hid (HB1.out.alloc HB1.out.size (.cells #[.string s] 9))
        have HS1 := Lib.hid (Sl.new (s := 1) w41 9 1 1 #[.string s] rfl (Nat.le_refl _) (by decide))
        go_wp2_with (at_builtin; refine appStr _ _ rfl rfl rfl rfl HOa.out HS1.out (by simp [Value.oneCell']) (N := ((ps.take k).filter (fun s => parB fs s a)).length + 1) (by simp) (by have := HLen.out; have := HP.out; omega) (by have := HSz1.out; simp; omega) ?_; intro A5 c5 w5 hap; have HB5 := Lib.hid (below_of_own hap.grown HOa.out HBa.out (by omega)); have HY5 := Lib.hid (HYa.out.kept hap.grown (fun e => by have := own_ge HOa.out e.symm; omega)); have HO5 := Lib.hid hap.own; have hg := hap.grown.size; have HSz5 := Lib.hid (show w.heap.size + 1 ≤ w5.heap.size by have := HSz1.out; simp at hg; omega); clear hap hg)
        go_roundw
        case rel => exact ⟨k + 1, by go_num, by omega, by rw [HM2.out, namesV_append, List.length_append]; exact HO5.out, HY5.out, HB5.out, HSz5.out⟩
        case measure => simp [intOf]; omega
    · have HKk := Lib.hid (show ps.take k = ps from List.take_of_length_le (by omega))
      have z0 := HY.out.cell 0 _ rfl
      have hq := Sl.of_own HO.out
      rw [show namesV ((ps.take k).filter (fun s => parB fs s a)) = namesV (ps.filter (fun s => parB fs s a)) by rw [HKk.out]] at hq
      have HQ := Lib.hid hq
      clear HKk hq
      go_wp2
      go_ret2
      exact ⟨HB.out, _, rfl, HQ.out⟩
theorem rchildren_any (A : Option Addr) (n c : Nat) (F : Option Addr) (m d : Nat) (ps : List ByteArray) (fs : List Fa) (a : ByteArray) (w : World) (h : NetC w A n c F m d ps fs) (hs : Short ps) :
    Calls Tryz.prog 32 #[.agg #[.slice A n c, .slice F m d], .string a] w (NamesP (if namedF ps fs [a] = 0 then childrenF fs a else []) (namedF ps fs [a]) w) := by
  obtain ⟨e1, e2, _⟩ := h.many
  subst e1
  subst e2
  rcases namedF_cases ps fs [a, a] with hr | ⟨hc, hk, hp, hfew, hall⟩
  · have := rchildren_bad _ hr A c F d ps fs a w h hs rfl
    rw [named_self] at this hr
    rw [if_neg (by omega)]
    exact this
  · have := rchildren_good A c F d ps fs a w h hs hc hp
    rw [named_self] at hc
    rw [hc, if_pos rfl]
    have hck : namesOk ps = true ∧ AllAbout ps fs := by
      rcases checkF_cases ps fs with q | q | ⟨_, _, _, q1, q2⟩
      · omega
      · omega
      · exact ⟨q1, q2⟩
    rw [children_ref hck.1 hck.2] at this
    exact this
end

section
open Go Go.RowKit Go.Shelf
attribute [local go_sem] Oper.semAt_some

/-- Numbers as cells. -/
def vsI (l : List Int) : Array Value := (l.map (Value.int .i64)).toArray
theorem vsI_get {l : List Int} {m : Nat} {x : Int} (h : l[m]? = some x) : (vsI l)[m]? = some (.int .i64 x) := by
  unfold vsI
  rw [List.getElem?_toArray, List.getElem?_map, h]
  rfl
theorem vsI_set (l : List Int) (m : Nat) (x : Int) : (vsI l).setIfInBounds m (.int .i64 x) = vsI (l.set m x) := by
  unfold vsI
  rw [List.setIfInBounds_toArray, List.map_set]
theorem vsI_sl {w : World} {B : Nat} {t : TypeId} {l : List Int} {n : Nat} (h : Cel w B t (vsI l)) (hl : l.length = n) (hn : n ≤ 24) : Sl w 1 (.slice (some ⟨B, 0, none⟩) n n) (l.map (Value.int .i64)) := by
  refine ⟨_, n, n, rfl, by rw [List.length_map]; omega, Nat.le_refl _, by omega, fun _ => ⟨_, rfl, fun j u hj => ?_⟩⟩
  have e : (⟨B, 0, none⟩ : Addr).add j = ⟨B, j, none⟩ := by unfold Addr.add; split <;> simp_all
  rw [e]
  exact h.cell j u (by unfold vsI; rw [List.getElem?_toArray]; exact hj)
theorem made_ints (n : Nat) : madeCells (Value.int .i64 0).cells (n * 1) = vsI (List.replicate n 0) := by
  unfold vsI
  rw [List.map_replicate, Nat.mul_one]
  apply Array.ext'
  simp only [madeCells, Value.cells]
  refine List.ext_getElem? fun j => ?_
  by_cases hj : j < n <;> simp [hj, Nat.mod_one]
/-- The first pass. -/
def St1 (ps : List ByteArray) (a : ByteArray) (k : Nat) (out : List Int) : Prop := out.length = ps.length ∧ ∀ (m : Nat) (s : ByteArray), m < k → ps[m]? = some s → out[m]? = some (if s = a then 0 else -1)
theorem St1.next {ps : List ByteArray} {a : ByteArray} {k : Nat} {out : List Int} {s : ByteArray} {x : Int} (h : St1 ps a k out) (hs : ps[k]? = some s) (hx : x = if s = a then 0 else -1) : St1 ps a (k + 1) (out.set k x) := by
  have hk : k < ps.length := (List.getElem?_eq_some_iff.1 hs).1
  refine ⟨by rw [List.length_set]; exact h.1, fun m t hm ht => ?_⟩
  by_cases e : k = m
  · subst e
    rw [hs] at ht
    cases ht
    rw [List.getElem?_set_self (by rw [h.1]; exact hk), hx]
  · rw [List.getElem?_set_ne e]
    exact h.2 m t (by omega) ht
theorem tab_val {R : ByteArray → ByteArray → Prop} {a : ByteArray} {ps : List ByteArray} {k : Nat} {E : Nat → Nat → Prop} {out : List Int} (h : Tab R a ps k E out) {m : Nat} (hm : m < ps.length) : ∃ x : Int, out[m]? = some x ∧ (x = -1 ∨ (0 ≤ x ∧ x ≤ (k : Int) + 1)) := by
  rcases h.2 m ps[m] (List.getElem?_eq_getElem hm) with ⟨d, q1, q2, _⟩ | ⟨q1, _⟩
  · exact ⟨d, q1, .inr ⟨by omega, by omega⟩⟩
  · exact ⟨-1, q1, .inl rfl⟩
set_option maxRecDepth 100000 in
set_option maxHeartbeats 8000000 in
theorem rsteps_any (A : Option Addr) (c : Nat) (F : Option Addr) (d : Nat) (ps : List ByteArray) (fs : List Fa) (a : ByteArray) (w : World) (h : NetC w A ps.length c F fs.length d ps fs) (hp : ps.length ≤ 24) (ha : a ∈ ps) (hf : AllAbout ps fs) :
    Calls Tryz.prog 86 #[.agg #[.slice A ps.length c, .slice F fs.length d], .string a] w fun e w' => Below w.heap.size w w' ∧ ∃ v out, e = .returned v ∧ Sl w' 1 v (out.map (Value.int .i64)) ∧ StT ps fs a out := by
  have hmk : ∀ W : World, (Instr.makeSlice 47 (.int .i64 (ps.length : Int)) (.int .i64 (ps.length : Int))).run Tryz.prog W = .ok (.slice (some ⟨W.heap.size, 0, none⟩) ps.length ps.length) (W.alloc (.cells (vsI (List.replicate ps.length 0)) 3)) := by
    intro W
    obtain ⟨i, hi, hz0, hz1, hz2⟩ := info_parts infoInt
    have hr := run_make (P := Tryz.prog) W 47 3 i (.int .i64 0) Tryz.underlying47 hi hz0 .i64 .i64 (ps.length : Int) (ps.length : Int) (by omega) (Int.le_refl _) (by rw [hz2]; omega) (by omega)
    simp only [Int.toNat_natCast] at hr
    rw [hr, hz1, made_ints]
  have hb0 := (below_alloc' w (.cells #[.slice A ps.length c, .slice F fs.length d] 25)).alloc (by simp) (.cells (vsI (List.replicate ps.length 0)) 3)
  have y0 := Cel.new w 25 #[.slice A ps.length c, .slice F fs.length d]
  have HY := Lib.hid (y0.alloc (.cells (vsI (List.replicate ps.length 0)) 3))
  have HC := Lib.hid (Cel.at (w.alloc (.cells #[.slice A ps.length c, .slice F fs.length d] 25)) (w.heap.size + 1) 3 (vsI (List.replicate ps.length 0)) (by simp))
  have HB := Lib.hid hb0
  have z0 := y0.cell 0 _ rfl
  have HPc := Lib.hid (fun q => h.person q)
  have HPa := Lib.hid (fun r s w' (hw : Below w.heap.size w w') => parent_any A ps.length c F fs.length d ps fs r s w' (h.below hw))
  have HP := Lib.hid hp
  have HA := Lib.hid ha
  have HPm := Lib.hid (par_mem hf)
  obtain ⟨b0, o0, hA, _, hce⟩ := h.person (List.length_pos_of_mem ha)
  subst hA
  have HCe := Lib.hid (fun k s hk => hce k s hk)
  have hn63 : (ps.length : Int) ≤ 9223372036854775807 := by omega
  clear h hb0 y0 hce ha hf hp HPc
  go_enter Tryz.func86, Tryz.ntmps86
  go_upto_region 2 with fail
  clear hmk z0
  generalize (w.alloc (.cells #[.slice (some ⟨b0, o0, none⟩) ps.length c, .slice F fs.length d] 25)).alloc (.cells (vsI (List.replicate ps.length 0)) 3) = W0 at *
  go_wp2
  go_loopw [6] (fun ti wr => ∃ (k : Nat) (out : List Int), ti = .int .i64 k ∧ k ≤ ps.length ∧ Hid (St1 ps a k out) ∧ Hid (Cel wr (w.heap.size + 1) 3 (vsI out)) ∧ Hid (Cel wr w.heap.size 25 #[.slice (some ⟨b0, o0, none⟩) ps.length c, .slice F fs.length d]) ∧ Hid (Below w.heap.size w wr)) (fun ti _ => ps.length - (intOf ti).toNat)
  case atStart => exact ⟨0, _, rfl, by omega, ⟨by simp, fun _ _ hm => absurd hm (Nat.not_lt_zero _)⟩, HC.out, HY.out, HB.out⟩
  case round =>
    clear HC HY HB
    obtain ⟨k, out, rfl, hk, HS, HC, HY, HB⟩ := hrel
    by_cases hlt : k < ps.length
    · have hki : (k : Int) < (ps.length : Int) := by omega
      have hk0 : (0 : Int) ≤ (k : Int) := by omega
      have hget : ps[k]? = some ps[k] := List.getElem?_eq_getElem hlt
      have c1 := below_cell HB.out (HCe.out k _ hget)
      obtain ⟨y, hok⟩ : ∃ y, out[k]? = some y := ⟨_, List.getElem?_eq_getElem (by rw [HS.out.1]; exact hlt)⟩
      have x0 := HC.out.cell k _ (vsI_get hok)
      have x1 := HC.out.frozen k
      have HC1 := Lib.hid (HC.out.setAt k (.int .i64 (-1)))
      rw [vsI_set] at HC1
      have hok1 : (out.set k (-1))[k]? = some (-1) := List.getElem?_set_self (by rw [HS.out.1]; exact hlt)
      have x2 := HC1.out.cell k _ (vsI_get hok1)
      have x3 := HC1.out.frozen k
      have HY1 := Lib.hid (HY.out.other (p := ⟨w.heap.size + 1, k, none⟩) (by simp) (.int .i64 (-1)))
      have HB1 := Lib.hid (HB.out.setCell (p := ⟨w.heap.size + 1, k, none⟩) (by simp) (.int .i64 (-1)))
      have c2 := below_cell HB1.out (HCe.out k _ hget)
      have z0 := HY.out.cell 0 _ rfl
      have z2 := HY1.out.cell 0 _ rfl
      have HNx := Lib.hid (fun x hx => HS.out.next (x := x) hget hx)
      clear hget hok hok1
      generalize ps[k] = s at *
      by_cases hq : s = a
      · have hqe : (s.toList == a.toList) = true := by rw [hq]; simp
        have HN2 := Lib.hid (HNx.out 0 (by rw [if_pos hq]))
        have HC2 := Lib.hid (HC1.out.setAt k (.int .i64 0))
        rw [vsI_set, List.set_set] at HC2
        have HY2 := Lib.hid (HY1.out.other (p := ⟨w.heap.size + 1, k, none⟩) (by simp) (.int .i64 0))
        have HB2 := Lib.hid (HB1.out.setCell (p := ⟨w.heap.size + 1, k, none⟩) (by simp) (.int .i64 0))
        clear hq HNx HS HC HY HB
        go_wp2
        go_roundw
        case rel => exact ⟨k + 1, _, by go_num, by omega, HN2.out, HC2.out, HY2.out, HB2.out⟩
        case measure => simp [intOf]; omega
      · have hqe : (s.toList == a.toList) = false := by rw [Bool.eq_false_iff]; intro z; exact hq ((Lib.bytes_beq_iff _ _).1 z)
        have HN2 := Lib.hid (HNx.out (-1) (by rw [if_neg hq]))
        clear hq HNx HS HC HY HB
        go_wp2
        go_roundw
        case rel => exact ⟨k + 1, _, by go_num, by omega, HN2.out, HC1.out, HY1.out, HB1.out⟩
        case measure => simp [intOf]; omega
    · have HT := Lib.hid (Tab.start (R := Par fs) (a := a) HS.out.1 (fun m s hs => HS.out.2 m s (by have := (List.getElem?_eq_some_iff.1 hs).1; omega) hs))
      clear hk HS
      go_wp2
      clear hlt
      obtain ⟨wo, hwo⟩ : ∃ wo, wo = wr := ⟨_, rfl⟩
      rw [← hwo] at HC HY HB ⊢
      clear hwo
      go_loopw [7] (fun ti wr => ∃ (k : Nat) (out : List Int), ti = .int .i64 k ∧ k ≤ ps.length ∧ Hid (Tab (Par fs) a ps k (fun i' m' => False) out) ∧ Hid (Cel wr (w.heap.size + 1) 3 (vsI out)) ∧ Hid (Cel wr w.heap.size 25 #[.slice (some ⟨b0, o0, none⟩) ps.length c, .slice F fs.length d]) ∧ Hid (Below w.heap.size w wr)) (fun ti _ => ps.length - (intOf ti).toNat)
      case atStart => exact ⟨0, out, rfl, by omega, HT.out.mono (fun _ _ q => q), HC.out, HY.out, HB.out⟩
      case round =>
        clear HT HC HY HB
        obtain ⟨k, out, rfl, hk, HT, HC, HY, HB⟩ := hrel
        obtain ⟨wo, hwo⟩ : ∃ wo, wo = wr := ⟨_, rfl⟩
        rw [← hwo] at HC HY HB ⊢
        clear hwo
        by_cases hlk : k < ps.length
        · have hki : (k : Int) < (ps.length : Int) := by omega
          have hk0 : (0 : Int) ≤ (k : Int) := by omega
          go_wp2
          go_loopw [8] (fun ti wr => ∃ (i : Nat) (out : List Int), ti = .int .i64 i ∧ i ≤ ps.length ∧ Hid (Tab (Par fs) a ps k (fun i' m' => i' < i) out) ∧ Hid (Cel wr (w.heap.size + 1) 3 (vsI out)) ∧ Hid (Cel wr w.heap.size 25 #[.slice (some ⟨b0, o0, none⟩) ps.length c, .slice F fs.length d]) ∧ Hid (Below w.heap.size w wr)) (fun ti _ => ps.length - (intOf ti).toNat)
          case atStart => exact ⟨0, out, rfl, by omega, HT.out.mono (fun _ _ q => absurd q (Nat.not_lt_zero _)), HC.out, HY.out, HB.out⟩
          case round =>
            clear HT HC HY HB
            obtain ⟨i, out, rfl, hi, HT, HC, HY, HB⟩ := hrel
            obtain ⟨wp, hwp⟩ : ∃ wp, wp = wr := ⟨_, rfl⟩
            rw [← hwp] at HC HY HB ⊢
            clear hwp
            by_cases hli : i < ps.length
            · have hii : (i : Int) < (ps.length : Int) := by omega
              have hi0 : (0 : Int) ≤ (i : Int) := by omega
              go_wp2
              go_loopw [9] (fun ti wr => ∃ (j : Nat) (out : List Int), ti = .int .i64 j ∧ j ≤ ps.length ∧ Hid (Tab (Par fs) a ps k (fun i' m' => i' < i ∨ (i' = i ∧ m' < j)) out) ∧ Hid (Cel wr (w.heap.size + 1) 3 (vsI out)) ∧ Hid (Cel wr w.heap.size 25 #[.slice (some ⟨b0, o0, none⟩) ps.length c, .slice F fs.length d]) ∧ Hid (Below w.heap.size w wr)) (fun ti _ => ps.length - (intOf ti).toNat)
              case atStart => exact ⟨0, out, rfl, by omega, HT.out.mono (fun _ _ q => q.elim id (fun z => absurd z.2 (Nat.not_lt_zero _))), HC.out, HY.out, HB.out⟩
              case round =>
                clear HT HC HY HB
                obtain ⟨j, out, rfl, hj, HT, HC, HY, HB⟩ := hrel
                by_cases hlj : j < ps.length
                · have hji : (j : Int) < (ps.length : Int) := by omega
                  have hj0 : (0 : Int) ≤ (j : Int) := by omega
                  obtain ⟨x, hx, hxr⟩ := tab_val HT.out hli
                  obtain ⟨y, hy, hyr⟩ := tab_val HT.out hlj
                  have hgi : ps[i]? = some ps[i] := List.getElem?_eq_getElem hli
                  have hgj : ps[j]? = some ps[j] := List.getElem?_eq_getElem hlj
                  have HLev := Lib.hid (HT.out.level hgi)
                  have HSk := Lib.hid (fun hn => (HT.out.skip i j (E := fun i' m' => i' < i ∨ (i' = i ∧ m' < j + 1)) (fun i' m' q => by rcases q with q | ⟨q1, q2⟩; exact .inl (.inl q); rcases Nat.lt_succ_iff_lt_or_eq.1 q2 with z | z; exact .inl (.inr ⟨q1, z⟩); exact .inr ⟨q1, z⟩) hn))
                  have HTk := Lib.hid (fun hl ho hr => (HT.out.take hgi hgj (E := fun i' m' => i' < i ∨ (i' = i ∧ m' < j + 1)) (fun i' m' q z => by rcases q with q | ⟨q1, q2⟩; exact .inl q; rcases Nat.lt_succ_iff_lt_or_eq.1 q2 with y | y; exact .inr ⟨q1, y⟩; exact absurd y z) hl ho hr))
                  have hid1 : ∀ r s, ps[i]? = some r → ps[j]? = some s → r = ps[i] ∧ s = ps[j] := fun r s hr hs => by rw [hgi] at hr; rw [hgj] at hs; cases hr; cases hs; exact ⟨rfl, rfl⟩
                  have HId := Lib.hid hid1
                  have HD1 := Lib.hid (HCe.out i _ hgi)
                  have HD2 := Lib.hid (HCe.out j _ hgj)
                  have c1 := below_cell HB.out HD1.out
                  have c2 := below_cell HB.out HD2.out
                  have x0 := HC.out.cell i _ (vsI_get hx)
                  have y0 := HC.out.cell j _ (vsI_get hy)
                  have y1 := HC.out.frozen j
                  have z0 := HY.out.cell 0 _ rfl
                  have z1 := HY.out.cell 1 _ rfl
                  have HX := Lib.hid hx
                  have HYv := Lib.hid hy
                  clear hx hy hgi hgj hid1
                  generalize ps[i] = r at *
                  generalize ps[j] = s at *
                  have HPs := Lib.hid (HPa.out r s)
                  by_cases hxk : x = (k : Int)
                  · subst hxk
                    have hLk := HLev.out.1 HX.out
                    have q1 : ((k : Int) == (k : Int)) = true := by simp
                    have q1' : (k == k) = true := by simp
                    rcases hyr with rfl | ⟨hy0, _⟩
                    · have q2 : decide ((-1 : Int) < 0) = true := rfl
                      obtain ⟨p, hpb⟩ : ∃ p, parB fs r s = p := ⟨_, rfl⟩
                      have HPr := Lib.hid (show p = true ↔ Par fs r s by rw [← hpb]; exact parB_iff)
                      rw [hpb] at HPs
                      have HLk := Lib.hid hLk
                      clear hpb hLk hxr HLev
                      go_upto_region 17 with fail
                      refine wp_region_held_drew (S := fun w' => Below wr.heap.size wr w') (by kernel_rfl) (below_drew (Below.refl _ _)) (fun hHeld => ?_)
                      refine wpAnyH_takeD (i := 0) (v := ?_) 51 rfl (by kernel_rfl) (by kernel_rfl) (by kernel_rfl) (fun _ _ _ h => h) (Or.inl ⟨by rfl, ?_⟩) (by assumption) rfl ?_
                      rotate_left
                      · intro w' hSw
                        have x0 := below_cell hSw x0; have y0 := below_cell hSw y0; have z0 := below_cell hSw z0; have z1 := below_cell hSw z1; have c1 := below_cell hSw c1; have c2 := below_cell hSw c2
                        go_simp <;> with_reducible rfl
                      simp only [List.setIfInBounds_toArray, List.set_cons_succ, List.set_cons_zero]
                      refine wpAnyH_takeD (i := 1) (v := ?_) 52 rfl (by kernel_rfl) (by kernel_rfl) (by kernel_rfl) (fun _ _ _ h => h) (Or.inl ⟨by rfl, ?_⟩) (by assumption) rfl ?_
                      rotate_left
                      · intro w' hSw
                        have x0 := below_cell hSw x0; have y0 := below_cell hSw y0; have z0 := below_cell hSw z0; have z1 := below_cell hSw z1; have c1 := below_cell hSw c1; have c2 := below_cell hSw c2
                        go_simp <;> with_reducible rfl
                      simp only [List.setIfInBounds_toArray, List.set_cons_succ, List.set_cons_zero]
                      refine wpAnyH_takeD (i := 2) (v := ?_) 53 rfl (by kernel_rfl) (by kernel_rfl) (by kernel_rfl) (fun _ _ _ h => h) (Or.inl ⟨by rfl, ?_⟩) (by assumption) rfl ?_
                      rotate_left
                      · intro w' hSw
                        have x0 := below_cell hSw x0; have y0 := below_cell hSw y0; have z0 := below_cell hSw z0; have z1 := below_cell hSw z1; have c1 := below_cell hSw c1; have c2 := below_cell hSw c2
                        go_simp <;> with_reducible rfl
                      simp only [List.setIfInBounds_toArray, List.set_cons_succ, List.set_cons_zero]
                      refine wpAnyH_takeD (i := 3) (v := ?_) 54 rfl (by kernel_rfl) (by kernel_rfl) (by kernel_rfl) (fun _ _ _ h => h) (Or.inl ⟨by rfl, ?_⟩) (by assumption) rfl ?_
                      rotate_left
                      · intro w' hSw
                        have x0 := below_cell hSw x0; have y0 := below_cell hSw y0; have z0 := below_cell hSw z0; have z1 := below_cell hSw z1; have c1 := below_cell hSw c1; have c2 := below_cell hSw c2
                        go_simp <;> with_reducible rfl
                      simp only [List.setIfInBounds_toArray, List.set_cons_succ, List.set_cons_zero]
                      refine wpAnyH_takeD (i := 4) (v := ?_) 55 rfl (by kernel_rfl) (by kernel_rfl) (by kernel_rfl) (fun _ _ _ h => h) (Or.inl ⟨by rfl, ?_⟩) (by assumption) rfl ?_
                      rotate_left
                      · intro w' hSw
                        have x0 := below_cell hSw x0; have y0 := below_cell hSw y0; have z0 := below_cell hSw z0; have z1 := below_cell hSw z1; have c1 := below_cell hSw c1; have c2 := below_cell hSw c2
                        go_simp <;> with_reducible rfl
                      simp only [List.setIfInBounds_toArray, List.set_cons_succ, List.set_cons_zero]
                      refine wpAnyH_takeD (i := 5) (v := ?_) 56 rfl (by kernel_rfl) (by kernel_rfl) (by kernel_rfl) (fun _ _ _ h => h) (Or.inl ⟨by rfl, ?_⟩) (by assumption) rfl ?_
                      rotate_left
                      · intro w' hSw
                        have x0 := below_cell hSw x0; have y0 := below_cell hSw y0; have z0 := below_cell hSw z0; have z1 := below_cell hSw z1; have c1 := below_cell hSw c1; have c2 := below_cell hSw c2
                        go_simp <;> with_reducible rfl
                      simp only [List.setIfInBounds_toArray, List.set_cons_succ, List.set_cons_zero]
                      refine wpAnyH_takeD (i := 6) (v := ?_) 57 rfl (by kernel_rfl) (by kernel_rfl) (by kernel_rfl) (fun _ _ _ h => h) (Or.inl ⟨by rfl, ?_⟩) (by assumption) rfl ?_
                      rotate_left
                      · intro w' hSw
                        have x0 := below_cell hSw x0; have y0 := below_cell hSw y0; have z0 := below_cell hSw z0; have z1 := below_cell hSw z1; have c1 := below_cell hSw c1; have c2 := below_cell hSw c2
                        go_simp <;> with_reducible rfl
                      simp only [List.setIfInBounds_toArray, List.set_cons_succ, List.set_cons_zero]
                      refine wpAnyH_takeD (i := 7) (v := ?_) 58 rfl (by kernel_rfl) (by kernel_rfl) (by kernel_rfl) (fun _ _ _ h => h) (Or.inl ⟨by rfl, ?_⟩) (by assumption) rfl ?_
                      rotate_left
                      · intro w' hSw
                        have x0 := below_cell hSw x0; have y0 := below_cell hSw y0; have z0 := below_cell hSw z0; have z1 := below_cell hSw z1; have c1 := below_cell hSw c1; have c2 := below_cell hSw c2
                        go_simp <;> with_reducible rfl
                      simp only [List.setIfInBounds_toArray, List.set_cons_succ, List.set_cons_zero]
                      refine wpAnyH_takeD (i := 8) (v := ?_) 59 rfl (by kernel_rfl) (by kernel_rfl) (by kernel_rfl) (fun _ _ _ h => h) (Or.inl ⟨by rfl, ?_⟩) (by assumption) rfl ?_
                      rotate_left
                      · intro w' hSw
                        have x0 := below_cell hSw x0; have y0 := below_cell hSw y0; have z0 := below_cell hSw z0; have z1 := below_cell hSw z1; have c1 := below_cell hSw c1; have c2 := below_cell hSw c2
                        go_simp <;> with_reducible rfl
                      simp only [List.setIfInBounds_toArray, List.set_cons_succ, List.set_cons_zero]
                      refine wpAnyH_takeD (i := 9) (v := ?_) 60 rfl (by kernel_rfl) (by kernel_rfl) (by kernel_rfl) (fun _ _ _ h => h) (Or.inl ⟨by rfl, ?_⟩) (by assumption) rfl ?_
                      rotate_left
                      · intro w' hSw
                        have x0 := below_cell hSw x0; have y0 := below_cell hSw y0; have z0 := below_cell hSw z0; have z1 := below_cell hSw z1; have c1 := below_cell hSw c1; have c2 := below_cell hSw c2
                        go_simp <;> with_reducible rfl
                      simp only [List.setIfInBounds_toArray, List.set_cons_succ, List.set_cons_zero]
                      refine wpAnyH_takeD (i := 10) (v := ?_) 61 rfl (by kernel_rfl) (by kernel_rfl) (by kernel_rfl) (fun _ _ _ h => h) (Or.inl ⟨by rfl, ?_⟩) (by assumption) rfl ?_
                      rotate_left
                      · intro w' hSw
                        have x0 := below_cell hSw x0; have y0 := below_cell hSw y0; have z0 := below_cell hSw z0; have z1 := below_cell hSw z1; have c1 := below_cell hSw c1; have c2 := below_cell hSw c2
                        go_simp <;> with_reducible rfl
                      simp only [List.setIfInBounds_toArray, List.set_cons_succ, List.set_cons_zero]
                      refine wpAnyH_takeD (i := 11) (v := ?_) 62 rfl (by kernel_rfl) (by kernel_rfl) (by kernel_rfl) (fun _ _ _ h => h) (Or.inl ⟨by rfl, ?_⟩) (by assumption) rfl ?_
                      rotate_left
                      · intro w' hSw
                        have x0 := below_cell hSw x0; have y0 := below_cell hSw y0; have z0 := below_cell hSw z0; have z1 := below_cell hSw z1; have c1 := below_cell hSw c1; have c2 := below_cell hSw c2
                        go_simp <;> with_reducible rfl
                      simp only [List.setIfInBounds_toArray, List.set_cons_succ, List.set_cons_zero]
                      refine wpAnyH_takeD (i := 12) (v := ?_) 63 rfl (by kernel_rfl) (by kernel_rfl) (by kernel_rfl) (fun _ _ _ h => h) (Or.inl ⟨by rfl, ?_⟩) (by assumption) rfl ?_
                      rotate_left
                      · intro w' hSw
                        have x0 := below_cell hSw x0; have y0 := below_cell hSw y0; have z0 := below_cell hSw z0; have z1 := below_cell hSw z1; have c1 := below_cell hSw c1; have c2 := below_cell hSw c2
                        go_simp <;> with_reducible rfl
                      simp only [List.setIfInBounds_toArray, List.set_cons_succ, List.set_cons_zero]
                      refine wpAnyH_takeD (i := 13) (v := ?_) 64 rfl (by kernel_rfl) (by kernel_rfl) (by kernel_rfl) (fun _ _ _ h => h) (Or.inl ⟨by rfl, ?_⟩) (by assumption) rfl ?_
                      rotate_left
                      · intro w' hSw
                        have x0 := below_cell hSw x0; have y0 := below_cell hSw y0; have z0 := below_cell hSw z0; have z1 := below_cell hSw z1; have c1 := below_cell hSw c1; have c2 := below_cell hSw c2
                        go_simp <;> with_reducible rfl
                      simp only [List.setIfInBounds_toArray, List.set_cons_succ, List.set_cons_zero]
                      refine wpAnyH_takeD (i := 14) (v := ?_) 65 rfl (by kernel_rfl) (by kernel_rfl) (by kernel_rfl) (fun _ _ _ h => h) (Or.inl ⟨by rfl, ?_⟩) (by assumption) rfl ?_
                      rotate_left
                      · intro w' hSw
                        have x0 := below_cell hSw x0; have y0 := below_cell hSw y0; have z0 := below_cell hSw z0; have z1 := below_cell hSw z1; have c1 := below_cell hSw c1; have c2 := below_cell hSw c2
                        go_simp <;> with_reducible rfl
                      simp only [List.setIfInBounds_toArray, List.set_cons_succ, List.set_cons_zero]
                      refine wpAnyH_takeD (i := 15) (v := ?_) 66 rfl (by kernel_rfl) (by kernel_rfl) (by kernel_rfl) (fun _ _ _ h => h) (Or.inl ⟨by rfl, ?_⟩) (by assumption) rfl ?_
                      rotate_left
                      · intro w' hSw
                        have x0 := below_cell hSw x0; have y0 := below_cell hSw y0; have z0 := below_cell hSw z0; have z1 := below_cell hSw z1; have c1 := below_cell hSw c1; have c2 := below_cell hSw c2
                        go_simp <;> with_reducible rfl
                      simp only [List.setIfInBounds_toArray, List.set_cons_succ, List.set_cons_zero]
                      refine wpAnyH_takeD (i := 16) (v := ?_) 67 rfl (by kernel_rfl) (by kernel_rfl) (by kernel_rfl) (fun _ _ _ h => h) (Or.inl ⟨by rfl, ?_⟩) (by assumption) rfl ?_
                      rotate_left
                      · intro w' hSw
                        have x0 := below_cell hSw x0; have y0 := below_cell hSw y0; have z0 := below_cell hSw z0; have z1 := below_cell hSw z1; have c1 := below_cell hSw c1; have c2 := below_cell hSw c2
                        go_simp <;> with_reducible rfl
                      simp only [List.setIfInBounds_toArray, List.set_cons_succ, List.set_cons_zero]
                      refine wpAnyH_takeD (i := 17) (v := ?_) 68 rfl (by kernel_rfl) (by kernel_rfl) (by kernel_rfl) (fun _ _ _ h => h) (Or.inl ⟨by rfl, ?_⟩) (by assumption) rfl ?_
                      rotate_left
                      · intro w' hSw
                        have x0 := below_cell hSw x0; have y0 := below_cell hSw y0; have z0 := below_cell hSw z0; have z1 := below_cell hSw z1; have c1 := below_cell hSw c1; have c2 := below_cell hSw c2
                        go_simp <;> with_reducible rfl
                      simp only [List.setIfInBounds_toArray, List.set_cons_succ, List.set_cons_zero]
                      refine wpAnyH_takeD (i := 18) (v := ?_) 69 rfl (by kernel_rfl) (by kernel_rfl) (by kernel_rfl) (fun _ _ _ h => h) (Or.inl ⟨by rfl, ?_⟩) (by assumption) rfl ?_
                      rotate_left
                      · intro w' hSw
                        have x0 := below_cell hSw x0; have y0 := below_cell hSw y0; have z0 := below_cell hSw z0; have z1 := below_cell hSw z1; have c1 := below_cell hSw c1; have c2 := below_cell hSw c2
                        go_simp <;> with_reducible rfl
                      simp only [List.setIfInBounds_toArray, List.set_cons_succ, List.set_cons_zero]
                      refine wpAnyH_takeD (i := 19) (v := ?_) 70 rfl (by kernel_rfl) (by kernel_rfl) (by kernel_rfl) (fun _ _ _ h => h) (Or.inl ⟨by rfl, ?_⟩) (by assumption) rfl ?_
                      rotate_left
                      · intro w' hSw
                        have x0 := below_cell hSw x0; have y0 := below_cell hSw y0; have z0 := below_cell hSw z0; have z1 := below_cell hSw z1; have c1 := below_cell hSw c1; have c2 := below_cell hSw c2
                        go_simp <;> with_reducible rfl
                      simp only [List.setIfInBounds_toArray, List.set_cons_succ, List.set_cons_zero]
                      refine wpAnyH_takeD (i := 20) (v := ?_) 71 rfl (by kernel_rfl) (by kernel_rfl) (by kernel_rfl) (fun _ _ _ h => h) (Or.inl ⟨by rfl, ?_⟩) (by assumption) rfl ?_
                      rotate_left
                      · intro w' hSw
                        have x0 := below_cell hSw x0; have y0 := below_cell hSw y0; have z0 := below_cell hSw z0; have z1 := below_cell hSw z1; have c1 := below_cell hSw c1; have c2 := below_cell hSw c2
                        go_simp <;> with_reducible rfl
                      simp only [List.setIfInBounds_toArray, List.set_cons_succ, List.set_cons_zero]
                      refine wpAnyH_takeD (i := 21) (v := ?_) 72 rfl (by kernel_rfl) (by kernel_rfl) (by kernel_rfl) (fun _ _ _ h => h) (Or.inl ⟨by rfl, ?_⟩) (by assumption) rfl ?_
                      rotate_left
                      · intro w' hSw
                        have x0 := below_cell hSw x0; have y0 := below_cell hSw y0; have z0 := below_cell hSw z0; have z1 := below_cell hSw z1; have c1 := below_cell hSw c1; have c2 := below_cell hSw c2
                        go_simp <;> with_reducible rfl
                      simp only [List.setIfInBounds_toArray, List.set_cons_succ, List.set_cons_zero]
                      refine wpAnyH_takeD (i := 22) (v := ?_) 73 rfl (by kernel_rfl) (by kernel_rfl) (by kernel_rfl) (fun _ _ _ h => h) (Or.inl ⟨by rfl, ?_⟩) (by assumption) rfl ?_
                      rotate_left
                      · intro w' hSw
                        have x0 := below_cell hSw x0; have y0 := below_cell hSw y0; have z0 := below_cell hSw z0; have z1 := below_cell hSw z1; have c1 := below_cell hSw c1; have c2 := below_cell hSw c2
                        go_simp <;> with_reducible rfl
                      simp only [List.setIfInBounds_toArray, List.set_cons_succ, List.set_cons_zero]
                      refine wpAnyH_takeD (i := 23) (v := ?_) 74 rfl (by kernel_rfl) (by kernel_rfl) (by kernel_rfl) (fun _ _ _ h => h) (Or.inl ⟨by rfl, ?_⟩) (by assumption) rfl ?_
                      rotate_left
                      · intro w' hSw
                        have x0 := below_cell hSw x0; have y0 := below_cell hSw y0; have z0 := below_cell hSw z0; have z1 := below_cell hSw z1; have c1 := below_cell hSw c1; have c2 := below_cell hSw c2
                        go_simp <;> with_reducible rfl
                      simp only [List.setIfInBounds_toArray, List.set_cons_succ, List.set_cons_zero]
                      refine wpAnyH_takeD (i := 24) (v := ?_) 75 rfl (by kernel_rfl) (by kernel_rfl) (by kernel_rfl) (fun _ _ _ h => h) (Or.inl ⟨by rfl, ?_⟩) (by assumption) rfl ?_
                      rotate_left
                      · intro w' hSw
                        have x0 := below_cell hSw x0; have y0 := below_cell hSw y0; have z0 := below_cell hSw z0; have z1 := below_cell hSw z1; have c1 := below_cell hSw c1; have c2 := below_cell hSw c2
                        go_simp <;> with_reducible rfl
                      simp only [List.setIfInBounds_toArray, List.set_cons_succ, List.set_cons_zero]
                      refine wpAnyH_ready (rs := [25]) (by kernel_rfl) (by simp) ?_
                      refine AllReadyH.cons (o := _) rfl (fun K hK => ?_) AllReadyH.nil
                      go_simp
                      go_at_call 83
                      refine (HPs.out _ (HB.out.trans (hHeld.mono HB.out.size))).mono ?_
                      rintro e w41 ⟨rfl, hb41⟩
                      have HV41 := Lib.hid (hHeld.trans (hb41.mono hHeld.size))
                      clear hb41
                      refine hK.out _ _ HV41.out (fun hHeld2 => ?_)
                      clear hK K
                      refine wpAnyH_takeD (i := 26) (v := ?_) 77 rfl (by kernel_rfl) (by kernel_rfl) (by kernel_rfl) (fun _ _ _ h => h) (Or.inl ⟨by rfl, ?_⟩) (by assumption) rfl ?_
                      rotate_left
                      · intro w' hSw
                        have x0 := below_cell hSw x0; have y0 := below_cell hSw y0; have z0 := below_cell hSw z0; have z1 := below_cell hSw z1; have c1 := below_cell hSw c1; have c2 := below_cell hSw c2
                        go_simp <;> with_reducible rfl
                      simp only [List.setIfInBounds_toArray, List.set_cons_succ, List.set_cons_zero]
                      refine wpAnyH_done (by kernel_rfl) ?_ _
                      clear hHeld hHeld2
                      have HC1 := Lib.hid (HC.out.below HC.out.lt HV41.out)
                      have HY1 := Lib.hid (HY.out.below HY.out.lt HV41.out)
                      have HB1 := Lib.hid (HB.out.trans (HV41.out.mono HB.out.size))
                      clear c1 c2 x0 y0 y1 z0 z1 HC HY HB HV41
                      have y0 := HC1.out.cell j _ (vsI_get HYv.out)
                      have y1 := HC1.out.frozen j
                      have HC2 := Lib.hid (HC1.out.setAt j (.int .i64 ((k : Int) + 1)))
                      rw [vsI_set] at HC2
                      have HY2 := Lib.hid (HY1.out.other (p := ⟨w.heap.size + 1, j, none⟩) (by simp) (.int .i64 ((k : Int) + 1)))
                      have HB2 := Lib.hid (HB1.out.setCell (p := ⟨w.heap.size + 1, j, none⟩) (by simp) (.int .i64 ((k : Int) + 1)))
                      cases p with
                      | true =>
                        have HT2 := Lib.hid (HTk.out HLk.out HYv.out (HPr.out.1 rfl))
                        have hkw : IntKind.i64.wrap ((k : Int) + 1) = (k : Int) + 1 := by rw [IntWalk.i64_in _ (by omega)]
                        go_wp2
                        exact ⟨⟨j + 1, _, by go_num, by omega, HT2.out, HC2.out, HY2.out, HB2.out⟩, by simp [intOf]; omega⟩
                      | false =>
                        have HT2 := Lib.hid (HSk.out (fun r' s' hr hs _ _ => by obtain ⟨rfl, rfl⟩ := HId.out r' s' hr hs; exact fun z => by have := HPr.out.2 z; cases this))
                        go_wp2
                        exact ⟨⟨j + 1, _, by go_num, by omega, HT2.out, HC1.out, HY1.out, HB1.out⟩, by simp [intOf]; omega⟩
                    · have q2 : decide (y < 0) = false := decide_eq_false (by omega)
                      have q3 : ¬ y < 0 := by omega
                      have HT2 := Lib.hid (HSk.out (fun r' s' _ _ ho _ => by rw [HYv.out] at ho; cases ho; omega))
                      clear hLk hxr HLev
                      go_upto_region 17 with fail
                      refine wp_region_held_drew (S := fun w' => Below wr.heap.size wr w') (by kernel_rfl) (below_drew (Below.refl _ _)) (fun hHeld => ?_)
                      refine wpAnyH_takeD (i := 0) (v := ?_) 51 rfl (by kernel_rfl) (by kernel_rfl) (by kernel_rfl) (fun _ _ _ h => h) (Or.inl ⟨by rfl, ?_⟩) (by assumption) rfl ?_
                      rotate_left
                      · intro w' hSw
                        have x0 := below_cell hSw x0; have y0 := below_cell hSw y0; have z0 := below_cell hSw z0; have z1 := below_cell hSw z1; have c1 := below_cell hSw c1; have c2 := below_cell hSw c2
                        go_simp <;> with_reducible rfl
                      simp only [List.setIfInBounds_toArray, List.set_cons_succ, List.set_cons_zero]
                      refine wpAnyH_takeD (i := 1) (v := ?_) 52 rfl (by kernel_rfl) (by kernel_rfl) (by kernel_rfl) (fun _ _ _ h => h) (Or.inl ⟨by rfl, ?_⟩) (by assumption) rfl ?_
                      rotate_left
                      · intro w' hSw
                        have x0 := below_cell hSw x0; have y0 := below_cell hSw y0; have z0 := below_cell hSw z0; have z1 := below_cell hSw z1; have c1 := below_cell hSw c1; have c2 := below_cell hSw c2
                        go_simp <;> with_reducible rfl
                      simp only [List.setIfInBounds_toArray, List.set_cons_succ, List.set_cons_zero]
                      refine wpAnyH_takeD (i := 2) (v := ?_) 53 rfl (by kernel_rfl) (by kernel_rfl) (by kernel_rfl) (fun _ _ _ h => h) (Or.inl ⟨by rfl, ?_⟩) (by assumption) rfl ?_
                      rotate_left
                      · intro w' hSw
                        have x0 := below_cell hSw x0; have y0 := below_cell hSw y0; have z0 := below_cell hSw z0; have z1 := below_cell hSw z1; have c1 := below_cell hSw c1; have c2 := below_cell hSw c2
                        go_simp <;> with_reducible rfl
                      simp only [List.setIfInBounds_toArray, List.set_cons_succ, List.set_cons_zero]
                      refine wpAnyH_takeD (i := 3) (v := ?_) 54 rfl (by kernel_rfl) (by kernel_rfl) (by kernel_rfl) (fun _ _ _ h => h) (Or.inl ⟨by rfl, ?_⟩) (by assumption) rfl ?_
                      rotate_left
                      · intro w' hSw
                        have x0 := below_cell hSw x0; have y0 := below_cell hSw y0; have z0 := below_cell hSw z0; have z1 := below_cell hSw z1; have c1 := below_cell hSw c1; have c2 := below_cell hSw c2
                        go_simp <;> with_reducible rfl
                      simp only [List.setIfInBounds_toArray, List.set_cons_succ, List.set_cons_zero]
                      refine wpAnyH_takeD (i := 4) (v := ?_) 55 rfl (by kernel_rfl) (by kernel_rfl) (by kernel_rfl) (fun _ _ _ h => h) (Or.inl ⟨by rfl, ?_⟩) (by assumption) rfl ?_
                      rotate_left
                      · intro w' hSw
                        have x0 := below_cell hSw x0; have y0 := below_cell hSw y0; have z0 := below_cell hSw z0; have z1 := below_cell hSw z1; have c1 := below_cell hSw c1; have c2 := below_cell hSw c2
                        go_simp <;> with_reducible rfl
                      simp only [List.setIfInBounds_toArray, List.set_cons_succ, List.set_cons_zero]
                      refine wpAnyH_takeD (i := 5) (v := ?_) 56 rfl (by kernel_rfl) (by kernel_rfl) (by kernel_rfl) (fun _ _ _ h => h) (Or.inl ⟨by rfl, ?_⟩) (by assumption) rfl ?_
                      rotate_left
                      · intro w' hSw
                        have x0 := below_cell hSw x0; have y0 := below_cell hSw y0; have z0 := below_cell hSw z0; have z1 := below_cell hSw z1; have c1 := below_cell hSw c1; have c2 := below_cell hSw c2
                        go_simp <;> with_reducible rfl
                      simp only [List.setIfInBounds_toArray, List.set_cons_succ, List.set_cons_zero]
                      refine wpAnyH_takeD (i := 6) (v := ?_) 57 rfl (by kernel_rfl) (by kernel_rfl) (by kernel_rfl) (fun _ _ _ h => h) (Or.inl ⟨by rfl, ?_⟩) (by assumption) rfl ?_
                      rotate_left
                      · intro w' hSw
                        have x0 := below_cell hSw x0; have y0 := below_cell hSw y0; have z0 := below_cell hSw z0; have z1 := below_cell hSw z1; have c1 := below_cell hSw c1; have c2 := below_cell hSw c2
                        go_simp <;> with_reducible rfl
                      simp only [List.setIfInBounds_toArray, List.set_cons_succ, List.set_cons_zero]
                      refine wpAnyH_takeD (i := 7) (v := ?_) 58 rfl (by kernel_rfl) (by kernel_rfl) (by kernel_rfl) (fun _ _ _ h => h) (Or.inl ⟨by rfl, ?_⟩) (by assumption) rfl ?_
                      rotate_left
                      · intro w' hSw
                        have x0 := below_cell hSw x0; have y0 := below_cell hSw y0; have z0 := below_cell hSw z0; have z1 := below_cell hSw z1; have c1 := below_cell hSw c1; have c2 := below_cell hSw c2
                        go_simp <;> with_reducible rfl
                      simp only [List.setIfInBounds_toArray, List.set_cons_succ, List.set_cons_zero]
                      refine wpAnyH_takeD (i := 8) (v := ?_) 59 rfl (by kernel_rfl) (by kernel_rfl) (by kernel_rfl) (fun _ _ _ h => h) (Or.inl ⟨by rfl, ?_⟩) (by assumption) rfl ?_
                      rotate_left
                      · intro w' hSw
                        have x0 := below_cell hSw x0; have y0 := below_cell hSw y0; have z0 := below_cell hSw z0; have z1 := below_cell hSw z1; have c1 := below_cell hSw c1; have c2 := below_cell hSw c2
                        go_simp <;> with_reducible rfl
                      simp only [List.setIfInBounds_toArray, List.set_cons_succ, List.set_cons_zero]
                      refine wpAnyH_takeD (i := 9) (v := ?_) 60 rfl (by kernel_rfl) (by kernel_rfl) (by kernel_rfl) (fun _ _ _ h => h) (Or.inl ⟨by rfl, ?_⟩) (by assumption) rfl ?_
                      rotate_left
                      · intro w' hSw
                        have x0 := below_cell hSw x0; have y0 := below_cell hSw y0; have z0 := below_cell hSw z0; have z1 := below_cell hSw z1; have c1 := below_cell hSw c1; have c2 := below_cell hSw c2
                        go_simp <;> with_reducible rfl
                      simp only [List.setIfInBounds_toArray, List.set_cons_succ, List.set_cons_zero]
                      refine wpAnyH_takeD (i := 10) (v := ?_) 61 rfl (by kernel_rfl) (by kernel_rfl) (by kernel_rfl) (fun _ _ _ h => h) (Or.inl ⟨by rfl, ?_⟩) (by assumption) rfl ?_
                      rotate_left
                      · intro w' hSw
                        have x0 := below_cell hSw x0; have y0 := below_cell hSw y0; have z0 := below_cell hSw z0; have z1 := below_cell hSw z1; have c1 := below_cell hSw c1; have c2 := below_cell hSw c2
                        go_simp <;> with_reducible rfl
                      simp only [List.setIfInBounds_toArray, List.set_cons_succ, List.set_cons_zero]
                      refine wpAnyH_takeD (i := 11) (v := ?_) 62 rfl (by kernel_rfl) (by kernel_rfl) (by kernel_rfl) (fun _ _ _ h => h) (Or.inl ⟨by rfl, ?_⟩) (by assumption) rfl ?_
                      rotate_left
                      · intro w' hSw
                        have x0 := below_cell hSw x0; have y0 := below_cell hSw y0; have z0 := below_cell hSw z0; have z1 := below_cell hSw z1; have c1 := below_cell hSw c1; have c2 := below_cell hSw c2
                        go_simp <;> with_reducible rfl
                      simp only [List.setIfInBounds_toArray, List.set_cons_succ, List.set_cons_zero]
                      refine wpAnyH_takeD (i := 12) (v := ?_) 63 rfl (by kernel_rfl) (by kernel_rfl) (by kernel_rfl) (fun _ _ _ h => h) (Or.inl ⟨by rfl, ?_⟩) (by assumption) rfl ?_
                      rotate_left
                      · intro w' hSw
                        have x0 := below_cell hSw x0; have y0 := below_cell hSw y0; have z0 := below_cell hSw z0; have z1 := below_cell hSw z1; have c1 := below_cell hSw c1; have c2 := below_cell hSw c2
                        go_simp <;> with_reducible rfl
                      simp only [List.setIfInBounds_toArray, List.set_cons_succ, List.set_cons_zero]
                      refine wpAnyH_takeD (i := 13) (v := ?_) 64 rfl (by kernel_rfl) (by kernel_rfl) (by kernel_rfl) (fun _ _ _ h => h) (Or.inl ⟨by rfl, ?_⟩) (by assumption) rfl ?_
                      rotate_left
                      · intro w' hSw
                        have x0 := below_cell hSw x0; have y0 := below_cell hSw y0; have z0 := below_cell hSw z0; have z1 := below_cell hSw z1; have c1 := below_cell hSw c1; have c2 := below_cell hSw c2
                        go_simp <;> with_reducible rfl
                      simp only [List.setIfInBounds_toArray, List.set_cons_succ, List.set_cons_zero]
                      refine wpAnyH_takeD (i := 14) 65 rfl (by kernel_rfl) (by kernel_rfl) (by kernel_rfl) (fun _ _ _ h => h) (Or.inr ⟨by kernel_rfl, rfl⟩) (by assumption) rfl ?_
                      simp only [List.setIfInBounds_toArray, List.set_cons_succ, List.set_cons_zero]
                      refine wpAnyH_takeD (i := 15) 66 rfl (by kernel_rfl) (by kernel_rfl) (by kernel_rfl) (fun _ _ _ h => h) (Or.inr ⟨by kernel_rfl, rfl⟩) (by assumption) rfl ?_
                      simp only [List.setIfInBounds_toArray, List.set_cons_succ, List.set_cons_zero]
                      refine wpAnyH_takeD (i := 16) 67 rfl (by kernel_rfl) (by kernel_rfl) (by kernel_rfl) (fun _ _ _ h => h) (Or.inr ⟨by kernel_rfl, rfl⟩) (by assumption) rfl ?_
                      simp only [List.setIfInBounds_toArray, List.set_cons_succ, List.set_cons_zero]
                      refine wpAnyH_takeD (i := 17) 68 rfl (by kernel_rfl) (by kernel_rfl) (by kernel_rfl) (fun _ _ _ h => h) (Or.inr ⟨by kernel_rfl, rfl⟩) (by assumption) rfl ?_
                      simp only [List.setIfInBounds_toArray, List.set_cons_succ, List.set_cons_zero]
                      refine wpAnyH_takeD (i := 18) 69 rfl (by kernel_rfl) (by kernel_rfl) (by kernel_rfl) (fun _ _ _ h => h) (Or.inr ⟨by kernel_rfl, rfl⟩) (by assumption) rfl ?_
                      simp only [List.setIfInBounds_toArray, List.set_cons_succ, List.set_cons_zero]
                      refine wpAnyH_takeD (i := 19) 70 rfl (by kernel_rfl) (by kernel_rfl) (by kernel_rfl) (fun _ _ _ h => h) (Or.inr ⟨by kernel_rfl, rfl⟩) (by assumption) rfl ?_
                      simp only [List.setIfInBounds_toArray, List.set_cons_succ, List.set_cons_zero]
                      refine wpAnyH_takeD (i := 20) 71 rfl (by kernel_rfl) (by kernel_rfl) (by kernel_rfl) (fun _ _ _ h => h) (Or.inr ⟨by kernel_rfl, rfl⟩) (by assumption) rfl ?_
                      simp only [List.setIfInBounds_toArray, List.set_cons_succ, List.set_cons_zero]
                      refine wpAnyH_takeD (i := 21) 72 rfl (by kernel_rfl) (by kernel_rfl) (by kernel_rfl) (fun _ _ _ h => h) (Or.inr ⟨by kernel_rfl, rfl⟩) (by assumption) rfl ?_
                      simp only [List.setIfInBounds_toArray, List.set_cons_succ, List.set_cons_zero]
                      refine wpAnyH_takeD (i := 22) 73 rfl (by kernel_rfl) (by kernel_rfl) (by kernel_rfl) (fun _ _ _ h => h) (Or.inr ⟨by kernel_rfl, rfl⟩) (by assumption) rfl ?_
                      simp only [List.setIfInBounds_toArray, List.set_cons_succ, List.set_cons_zero]
                      refine wpAnyH_takeD (i := 23) 74 rfl (by kernel_rfl) (by kernel_rfl) (by kernel_rfl) (fun _ _ _ h => h) (Or.inr ⟨by kernel_rfl, rfl⟩) (by assumption) rfl ?_
                      simp only [List.setIfInBounds_toArray, List.set_cons_succ, List.set_cons_zero]
                      refine wpAnyH_takeD (i := 24) 75 rfl (by kernel_rfl) (by kernel_rfl) (by kernel_rfl) (fun _ _ _ h => h) (Or.inr ⟨by kernel_rfl, rfl⟩) (by assumption) rfl ?_
                      simp only [List.setIfInBounds_toArray, List.set_cons_succ, List.set_cons_zero]
                      refine wpAnyH_takeD (i := 25) 76 rfl (by kernel_rfl) (by kernel_rfl) (by kernel_rfl) (fun _ _ _ h => h) (Or.inr ⟨by kernel_rfl, rfl⟩) (by assumption) rfl ?_
                      simp only [List.setIfInBounds_toArray, List.set_cons_succ, List.set_cons_zero]
                      refine wpAnyH_takeD (i := 26) (v := ?_) 77 rfl (by kernel_rfl) (by kernel_rfl) (by kernel_rfl) (fun _ _ _ h => h) (Or.inl ⟨by rfl, ?_⟩) (by assumption) rfl ?_
                      rotate_left
                      · intro w' hSw
                        have x0 := below_cell hSw x0; have y0 := below_cell hSw y0; have z0 := below_cell hSw z0; have z1 := below_cell hSw z1; have c1 := below_cell hSw c1; have c2 := below_cell hSw c2
                        go_simp <;> with_reducible rfl
                      simp only [List.setIfInBounds_toArray, List.set_cons_succ, List.set_cons_zero]
                      refine wpAnyH_done (by kernel_rfl) ?_ _
                      have HC1 := Lib.hid (HC.out.below HC.out.lt hHeld)
                      have HY1 := Lib.hid (HY.out.below HY.out.lt hHeld)
                      have HB1 := Lib.hid (HB.out.trans (hHeld.mono HB.out.size))
                      clear c1 c2 x0 y0 y1 z0 z1 HC HY HB hHeld
                      go_wp2
                      exact ⟨⟨j + 1, _, by go_num, by omega, HT2.out, HC1.out, HY1.out, HB1.out⟩, by simp [intOf]; omega⟩
                  · have q1 : (x == (k : Int)) = false := beq_eq_false_iff_ne.2 hxk
                    have HT2 := Lib.hid (HSk.out (fun r' s' hr _ _ hl => by obtain ⟨rfl, _⟩ := HId.out r' s' hr (by assumption); exact absurd (Option.some.inj (HX.out.symm.trans (HLev.out.2 hl))) hxk))
                    clear hxk hxr hyr HLev
                    go_upto_region 17 with fail
                    refine wp_region_held_drew (S := fun w' => Below wr.heap.size wr w') (by kernel_rfl) (below_drew (Below.refl _ _)) (fun hHeld => ?_)
                    refine wpAnyH_takeD (i := 0) (v := ?_) 51 rfl (by kernel_rfl) (by kernel_rfl) (by kernel_rfl) (fun _ _ _ h => h) (Or.inl ⟨by rfl, ?_⟩) (by assumption) rfl ?_
                    rotate_left
                    · intro w' hSw
                      have x0 := below_cell hSw x0; have y0 := below_cell hSw y0; have z0 := below_cell hSw z0; have z1 := below_cell hSw z1; have c1 := below_cell hSw c1; have c2 := below_cell hSw c2
                      go_simp <;> with_reducible rfl
                    simp only [List.setIfInBounds_toArray, List.set_cons_succ, List.set_cons_zero]
                    refine wpAnyH_takeD (i := 1) (v := ?_) 52 rfl (by kernel_rfl) (by kernel_rfl) (by kernel_rfl) (fun _ _ _ h => h) (Or.inl ⟨by rfl, ?_⟩) (by assumption) rfl ?_
                    rotate_left
                    · intro w' hSw
                      have x0 := below_cell hSw x0; have y0 := below_cell hSw y0; have z0 := below_cell hSw z0; have z1 := below_cell hSw z1; have c1 := below_cell hSw c1; have c2 := below_cell hSw c2
                      go_simp <;> with_reducible rfl
                    simp only [List.setIfInBounds_toArray, List.set_cons_succ, List.set_cons_zero]
                    refine wpAnyH_takeD (i := 2) (v := ?_) 53 rfl (by kernel_rfl) (by kernel_rfl) (by kernel_rfl) (fun _ _ _ h => h) (Or.inl ⟨by rfl, ?_⟩) (by assumption) rfl ?_
                    rotate_left
                    · intro w' hSw
                      have x0 := below_cell hSw x0; have y0 := below_cell hSw y0; have z0 := below_cell hSw z0; have z1 := below_cell hSw z1; have c1 := below_cell hSw c1; have c2 := below_cell hSw c2
                      go_simp <;> with_reducible rfl
                    simp only [List.setIfInBounds_toArray, List.set_cons_succ, List.set_cons_zero]
                    refine wpAnyH_takeD (i := 3) (v := ?_) 54 rfl (by kernel_rfl) (by kernel_rfl) (by kernel_rfl) (fun _ _ _ h => h) (Or.inl ⟨by rfl, ?_⟩) (by assumption) rfl ?_
                    rotate_left
                    · intro w' hSw
                      have x0 := below_cell hSw x0; have y0 := below_cell hSw y0; have z0 := below_cell hSw z0; have z1 := below_cell hSw z1; have c1 := below_cell hSw c1; have c2 := below_cell hSw c2
                      go_simp <;> with_reducible rfl
                    simp only [List.setIfInBounds_toArray, List.set_cons_succ, List.set_cons_zero]
                    refine wpAnyH_takeD (i := 4) (v := ?_) 55 rfl (by kernel_rfl) (by kernel_rfl) (by kernel_rfl) (fun _ _ _ h => h) (Or.inl ⟨by rfl, ?_⟩) (by assumption) rfl ?_
                    rotate_left
                    · intro w' hSw
                      have x0 := below_cell hSw x0; have y0 := below_cell hSw y0; have z0 := below_cell hSw z0; have z1 := below_cell hSw z1; have c1 := below_cell hSw c1; have c2 := below_cell hSw c2
                      go_simp <;> with_reducible rfl
                    simp only [List.setIfInBounds_toArray, List.set_cons_succ, List.set_cons_zero]
                    refine wpAnyH_takeD (i := 5) (v := ?_) 56 rfl (by kernel_rfl) (by kernel_rfl) (by kernel_rfl) (fun _ _ _ h => h) (Or.inl ⟨by rfl, ?_⟩) (by assumption) rfl ?_
                    rotate_left
                    · intro w' hSw
                      have x0 := below_cell hSw x0; have y0 := below_cell hSw y0; have z0 := below_cell hSw z0; have z1 := below_cell hSw z1; have c1 := below_cell hSw c1; have c2 := below_cell hSw c2
                      go_simp <;> with_reducible rfl
                    simp only [List.setIfInBounds_toArray, List.set_cons_succ, List.set_cons_zero]
                    refine wpAnyH_takeD (i := 6) (v := ?_) 57 rfl (by kernel_rfl) (by kernel_rfl) (by kernel_rfl) (fun _ _ _ h => h) (Or.inl ⟨by rfl, ?_⟩) (by assumption) rfl ?_
                    rotate_left
                    · intro w' hSw
                      have x0 := below_cell hSw x0; have y0 := below_cell hSw y0; have z0 := below_cell hSw z0; have z1 := below_cell hSw z1; have c1 := below_cell hSw c1; have c2 := below_cell hSw c2
                      go_simp <;> with_reducible rfl
                    simp only [List.setIfInBounds_toArray, List.set_cons_succ, List.set_cons_zero]
                    refine wpAnyH_takeD (i := 7) 58 rfl (by kernel_rfl) (by kernel_rfl) (by kernel_rfl) (fun _ _ _ h => h) (Or.inr ⟨by kernel_rfl, rfl⟩) (by assumption) rfl ?_
                    simp only [List.setIfInBounds_toArray, List.set_cons_succ, List.set_cons_zero]
                    refine wpAnyH_takeD (i := 8) 59 rfl (by kernel_rfl) (by kernel_rfl) (by kernel_rfl) (fun _ _ _ h => h) (Or.inr ⟨by kernel_rfl, rfl⟩) (by assumption) rfl ?_
                    simp only [List.setIfInBounds_toArray, List.set_cons_succ, List.set_cons_zero]
                    refine wpAnyH_takeD (i := 9) 60 rfl (by kernel_rfl) (by kernel_rfl) (by kernel_rfl) (fun _ _ _ h => h) (Or.inr ⟨by kernel_rfl, rfl⟩) (by assumption) rfl ?_
                    simp only [List.setIfInBounds_toArray, List.set_cons_succ, List.set_cons_zero]
                    refine wpAnyH_takeD (i := 10) 61 rfl (by kernel_rfl) (by kernel_rfl) (by kernel_rfl) (fun _ _ _ h => h) (Or.inr ⟨by kernel_rfl, rfl⟩) (by assumption) rfl ?_
                    simp only [List.setIfInBounds_toArray, List.set_cons_succ, List.set_cons_zero]
                    refine wpAnyH_takeD (i := 11) 62 rfl (by kernel_rfl) (by kernel_rfl) (by kernel_rfl) (fun _ _ _ h => h) (Or.inr ⟨by kernel_rfl, rfl⟩) (by assumption) rfl ?_
                    simp only [List.setIfInBounds_toArray, List.set_cons_succ, List.set_cons_zero]
                    refine wpAnyH_takeD (i := 12) (v := ?_) 63 rfl (by kernel_rfl) (by kernel_rfl) (by kernel_rfl) (fun _ _ _ h => h) (Or.inl ⟨by rfl, ?_⟩) (by assumption) rfl ?_
                    rotate_left
                    · intro w' hSw
                      have x0 := below_cell hSw x0; have y0 := below_cell hSw y0; have z0 := below_cell hSw z0; have z1 := below_cell hSw z1; have c1 := below_cell hSw c1; have c2 := below_cell hSw c2
                      go_simp <;> with_reducible rfl
                    simp only [List.setIfInBounds_toArray, List.set_cons_succ, List.set_cons_zero]
                    refine wpAnyH_takeD (i := 13) (v := ?_) 64 rfl (by kernel_rfl) (by kernel_rfl) (by kernel_rfl) (fun _ _ _ h => h) (Or.inl ⟨by rfl, ?_⟩) (by assumption) rfl ?_
                    rotate_left
                    · intro w' hSw
                      have x0 := below_cell hSw x0; have y0 := below_cell hSw y0; have z0 := below_cell hSw z0; have z1 := below_cell hSw z1; have c1 := below_cell hSw c1; have c2 := below_cell hSw c2
                      go_simp <;> with_reducible rfl
                    simp only [List.setIfInBounds_toArray, List.set_cons_succ, List.set_cons_zero]
                    refine wpAnyH_takeD (i := 14) 65 rfl (by kernel_rfl) (by kernel_rfl) (by kernel_rfl) (fun _ _ _ h => h) (Or.inr ⟨by kernel_rfl, rfl⟩) (by assumption) rfl ?_
                    simp only [List.setIfInBounds_toArray, List.set_cons_succ, List.set_cons_zero]
                    refine wpAnyH_takeD (i := 15) 66 rfl (by kernel_rfl) (by kernel_rfl) (by kernel_rfl) (fun _ _ _ h => h) (Or.inr ⟨by kernel_rfl, rfl⟩) (by assumption) rfl ?_
                    simp only [List.setIfInBounds_toArray, List.set_cons_succ, List.set_cons_zero]
                    refine wpAnyH_takeD (i := 16) 67 rfl (by kernel_rfl) (by kernel_rfl) (by kernel_rfl) (fun _ _ _ h => h) (Or.inr ⟨by kernel_rfl, rfl⟩) (by assumption) rfl ?_
                    simp only [List.setIfInBounds_toArray, List.set_cons_succ, List.set_cons_zero]
                    refine wpAnyH_takeD (i := 17) 68 rfl (by kernel_rfl) (by kernel_rfl) (by kernel_rfl) (fun _ _ _ h => h) (Or.inr ⟨by kernel_rfl, rfl⟩) (by assumption) rfl ?_
                    simp only [List.setIfInBounds_toArray, List.set_cons_succ, List.set_cons_zero]
                    refine wpAnyH_takeD (i := 18) 69 rfl (by kernel_rfl) (by kernel_rfl) (by kernel_rfl) (fun _ _ _ h => h) (Or.inr ⟨by kernel_rfl, rfl⟩) (by assumption) rfl ?_
                    simp only [List.setIfInBounds_toArray, List.set_cons_succ, List.set_cons_zero]
                    refine wpAnyH_takeD (i := 19) 70 rfl (by kernel_rfl) (by kernel_rfl) (by kernel_rfl) (fun _ _ _ h => h) (Or.inr ⟨by kernel_rfl, rfl⟩) (by assumption) rfl ?_
                    simp only [List.setIfInBounds_toArray, List.set_cons_succ, List.set_cons_zero]
                    refine wpAnyH_takeD (i := 20) 71 rfl (by kernel_rfl) (by kernel_rfl) (by kernel_rfl) (fun _ _ _ h => h) (Or.inr ⟨by kernel_rfl, rfl⟩) (by assumption) rfl ?_
                    simp only [List.setIfInBounds_toArray, List.set_cons_succ, List.set_cons_zero]
                    refine wpAnyH_takeD (i := 21) 72 rfl (by kernel_rfl) (by kernel_rfl) (by kernel_rfl) (fun _ _ _ h => h) (Or.inr ⟨by kernel_rfl, rfl⟩) (by assumption) rfl ?_
                    simp only [List.setIfInBounds_toArray, List.set_cons_succ, List.set_cons_zero]
                    refine wpAnyH_takeD (i := 22) 73 rfl (by kernel_rfl) (by kernel_rfl) (by kernel_rfl) (fun _ _ _ h => h) (Or.inr ⟨by kernel_rfl, rfl⟩) (by assumption) rfl ?_
                    simp only [List.setIfInBounds_toArray, List.set_cons_succ, List.set_cons_zero]
                    refine wpAnyH_takeD (i := 23) 74 rfl (by kernel_rfl) (by kernel_rfl) (by kernel_rfl) (fun _ _ _ h => h) (Or.inr ⟨by kernel_rfl, rfl⟩) (by assumption) rfl ?_
                    simp only [List.setIfInBounds_toArray, List.set_cons_succ, List.set_cons_zero]
                    refine wpAnyH_takeD (i := 24) 75 rfl (by kernel_rfl) (by kernel_rfl) (by kernel_rfl) (fun _ _ _ h => h) (Or.inr ⟨by kernel_rfl, rfl⟩) (by assumption) rfl ?_
                    simp only [List.setIfInBounds_toArray, List.set_cons_succ, List.set_cons_zero]
                    refine wpAnyH_takeD (i := 25) 76 rfl (by kernel_rfl) (by kernel_rfl) (by kernel_rfl) (fun _ _ _ h => h) (Or.inr ⟨by kernel_rfl, rfl⟩) (by assumption) rfl ?_
                    simp only [List.setIfInBounds_toArray, List.set_cons_succ, List.set_cons_zero]
                    refine wpAnyH_takeD (i := 26) (v := ?_) 77 rfl (by kernel_rfl) (by kernel_rfl) (by kernel_rfl) (fun _ _ _ h => h) (Or.inl ⟨by rfl, ?_⟩) (by assumption) rfl ?_
                    rotate_left
                    · intro w' hSw
                      have x0 := below_cell hSw x0; have y0 := below_cell hSw y0; have z0 := below_cell hSw z0; have z1 := below_cell hSw z1; have c1 := below_cell hSw c1; have c2 := below_cell hSw c2
                      go_simp <;> with_reducible rfl
                    simp only [List.setIfInBounds_toArray, List.set_cons_succ, List.set_cons_zero]
                    refine wpAnyH_done (by kernel_rfl) ?_ _
                    have HC1 := Lib.hid (HC.out.below HC.out.lt hHeld)
                    have HY1 := Lib.hid (HY.out.below HY.out.lt hHeld)
                    have HB1 := Lib.hid (HB.out.trans (hHeld.mono HB.out.size))
                    clear c1 c2 x0 y0 y1 z0 z1 HC HY HB hHeld
                    go_wp2
                    exact ⟨⟨j + 1, _, by go_num, by omega, HT2.out, HC1.out, HY1.out, HB1.out⟩, by simp [intOf]; omega⟩
                · have HT2 := Lib.hid (HT.out.mono (E := fun i' m' => i' < i + 1 ∧ m' < ps.length) (fun i' m' q => by rcases Nat.lt_succ_iff_lt_or_eq.1 q.1 with z | z; exact .inl z; exact .inr ⟨z, by omega⟩))
                  have HT3 := Lib.hid (show Tab (Par fs) a ps k (fun i' _ => i' < i + 1) out from ⟨HT2.out.1, fun m s hs => (HT2.out.2 m s hs).elim .inl (fun q => .inr ⟨q.1, q.2.1, fun i' r hi' z => q.2.2 i' r hi' ⟨z, (List.getElem?_eq_some_iff.1 hs).1⟩⟩)⟩)
                  go_wp2
                  exact ⟨⟨i + 1, out, by go_num, by omega, HT3.out, HC.out, HY.out, HB.out⟩, by simp [intOf]; omega⟩
            · have HT2 := Lib.hid (HT.out.up (fun i' _ z _ => by show i' < i; omega) HA.out HPm.out)
              go_wp2
              exact ⟨⟨k + 1, out, by go_num, by omega, HT2.out.mono (fun _ _ q => q), HC.out, HY.out, HB.out⟩, by simp [intOf]; omega⟩
        · have HSt := Lib.hid (show StT ps fs a out from ⟨HT.out.1, fun m s hs => HT.out.all (by omega) HA.out HPm.out hs⟩)
          have HSl := Lib.hid (vsI_sl HC.out HT.out.1 HP.out)
          go_wp2
          go_ret
          exact ⟨HB.out, _, out, rfl, HSl.out, HSt.out⟩
end

section
open Go Go.RowKit Go.Shelf
attribute [local go_sem] Oper.semAt_some

/-- What the reference's Kin answers. -/
def RKinP (ps : List ByteArray) (fs : List Fa) (a b : ByteArray) (w : World) (e : Ending) (w' : World) : Prop :=
  Below w.heap.size w w' ∧ ∃ (x y : List Int) (best : Int), StT ps fs a x ∧ StT ps fs b y ∧ RBest x y ps.length best ∧
    ((best = -1 ∧ e = .returned (.tuple #[.int .i64 0, .int .i64 0, .int .i64 4])) ∨ ∃ m : Nat, best = (m : Int) ∧ e = .returned (.tuple #[.int .i64 (x.getD m 0), .int .i64 (y.getD m 0), .int .i64 0]))
theorem stt_val {ps : List ByteArray} {fs : List Fa} {a : ByteArray} {x : List Int} (h : StT ps fs a x) (ha : a ∈ ps) (hf : AllAbout ps fs) (hp : ps.length ≤ 24) {m : Nat} (hm : m < ps.length) : x[m]? = some (x.getD m 0) ∧ -1 ≤ x.getD m 0 ∧ x.getD m 0 ≤ 24 := by
  rcases h.2 m ps[m] (List.getElem?_eq_getElem hm) with ⟨d, q1, q2⟩ | ⟨q1, _⟩
  · have := q2.lt ha (par_mem hf)
    rw [List.getD_eq_getElem?_getD, q1]
    exact ⟨rfl, (by show (-1 : Int) ≤ (d : Int); omega), (by show (d : Int) ≤ 24; omega)⟩
  · rw [List.getD_eq_getElem?_getD, q1]
    exact ⟨rfl, by simp, by simp⟩
set_option maxRecDepth 100000 in
set_option maxHeartbeats 8000000 in
theorem rkin_bad (r : Int) (hr : r = 3 ∨ r = 100 ∨ r = 2) (A : Option Addr) (c : Nat) (F : Option Addr) (d : Nat) (ps : List ByteArray) (fs : List Fa) (a b : ByteArray) (w : World) (h : NetC w A ps.length c F fs.length d ps fs) (hs : Short ps) (hc : namedF ps fs [a, b] = r) :
    Calls Tryz.prog 36 #[.agg #[.slice A ps.length c, .slice F fs.length d], .string a, .string b] w fun e w' => e = .returned (.tuple #[.int .i64 0, .int .i64 0, .int .i64 r]) ∧ Below w.heap.size w w' := by
  have hb0 := below_alloc' w (.cells #[.slice A ps.length c, .slice F fs.length d] 25)
  have y0 := Cel.new w 25 #[.slice A ps.length c, .slice F fs.length d]
  have HK := Lib.hid (asked_any A ps.length c F fs.length d ps fs a b _ (h.below hb0) hs)
  rw [hc] at HK
  clear h hs hc
  rcases hr with rfl | rfl | rfl
  all_goals
    go_enter Tryz.func36, Tryz.ntmps36
    go_wp2_with fail
    refine HK.out.mono ?_
    rintro e w1 ⟨rfl, hb1⟩
    have HB := Lib.hid (hb0.trans (hb1.mono hb0.size))
    have HY := Lib.hid (y0.below y0.lt hb1)
    clear hb0 hb1 y0 HK
    go_wp2
    go_ret3
    exact ⟨rfl, HB.out⟩
set_option maxRecDepth 100000 in
set_option maxHeartbeats 8000000 in
theorem rkin_good (A : Option Addr) (c : Nat) (F : Option Addr) (d : Nat) (ps : List ByteArray) (fs : List Fa) (a b : ByteArray) (w : World) (h : NetC w A ps.length c F fs.length d ps fs) (hs : Short ps) (hc : namedF ps fs [a, b] = 0) (hp : ps.length ≤ 24) (hf : AllAbout ps fs) (ha : a ∈ ps) (hb : b ∈ ps) :
    Calls Tryz.prog 36 #[.agg #[.slice A ps.length c, .slice F fs.length d], .string a, .string b] w (RKinP ps fs a b w) := by
  have hb0 := below_alloc' w (.cells #[.slice A ps.length c, .slice F fs.length d] 25)
  have y0 := Cel.new w 25 #[.slice A ps.length c, .slice F fs.length d]
  have HK := Lib.hid (asked_any A ps.length c F fs.length d ps fs a b _ (h.below hb0) hs)
  rw [hc] at HK
  have HS1 := Lib.hid (fun w' (hw : Below w.heap.size w w') => rsteps_any A c F d ps fs a w' (h.below hw) hp ha hf)
  have HS2 := Lib.hid (fun w' (hw : Below w.heap.size w w') => rsteps_any A c F d ps fs b w' (h.below hw) hp hb hf)
  have HV1 := Lib.hid (fun x (hx : StT ps fs a x) m (hm : m < ps.length) => stt_val hx ha hf hp hm)
  have HV2 := Lib.hid (fun x (hx : StT ps fs b x) m (hm : m < ps.length) => stt_val hx hb hf hp hm)
  have HP := Lib.hid hp
  have HPos := Lib.hid (List.length_pos_of_mem ha)
  clear h hs hc hp hf ha hb
  go_enter Tryz.func36, Tryz.ntmps36
  go_wp2_with fail
  refine HK.out.mono ?_
  rintro e w1 ⟨rfl, hb1⟩
  have HB := Lib.hid (hb0.trans (hb1.mono hb0.size))
  have HY := Lib.hid (y0.below y0.lt hb1)
  clear hb0 hb1 y0 HK
  have z0 := HY.out.cell 0 _ rfl
  have z1 := HY.out.cell 1 _ rfl
  go_upto_region 4 with fail
  refine wp_region_held_drew (S := fun w' => Below w1.heap.size w1 w') (by kernel_rfl) (below_drew (Below.refl _ _)) (fun hHeld => ?_)
  refine wpAnyH_takeD (i := 0) (v := ?_) 21 rfl (by kernel_rfl) (by kernel_rfl) (by kernel_rfl) (fun _ _ _ h => h) (Or.inl ⟨by rfl, ?_⟩) (by assumption) rfl ?_
  rotate_left
  · intro w' hSw
    have z0 := below_cell hSw z0; have z1 := below_cell hSw z1
    go_simp <;> with_reducible rfl
  simp only [List.setIfInBounds_toArray, List.set_cons_succ, List.set_cons_zero]
  refine wpAnyH_takeD (i := 1) (v := ?_) 22 rfl (by kernel_rfl) (by kernel_rfl) (by kernel_rfl) (fun _ _ _ h => h) (Or.inl ⟨by rfl, ?_⟩) (by assumption) rfl ?_
  rotate_left
  · intro w' hSw
    have z0 := below_cell hSw z0; have z1 := below_cell hSw z1
    go_simp <;> with_reducible rfl
  simp only [List.setIfInBounds_toArray, List.set_cons_succ, List.set_cons_zero]
  refine wpAnyH_takeD (i := 3) (v := ?_) 24 rfl (by kernel_rfl) (by kernel_rfl) (by kernel_rfl) (fun _ _ _ h => h) (Or.inl ⟨by rfl, ?_⟩) (by assumption) rfl ?_
  rotate_left
  · intro w' hSw
    have z0 := below_cell hSw z0; have z1 := below_cell hSw z1
    go_simp <;> with_reducible rfl
  simp only [List.setIfInBounds_toArray, List.set_cons_succ, List.set_cons_zero]
  refine wpAnyH_takeD (i := 4) (v := ?_) 25 rfl (by kernel_rfl) (by kernel_rfl) (by kernel_rfl) (fun _ _ _ h => h) (Or.inl ⟨by rfl, ?_⟩) (by assumption) rfl ?_
  rotate_left
  · intro w' hSw
    have z0 := below_cell hSw z0; have z1 := below_cell hSw z1
    go_simp <;> with_reducible rfl
  simp only [List.setIfInBounds_toArray, List.set_cons_succ, List.set_cons_zero]
  refine wpAnyH_ready (rs := [2]) (by kernel_rfl) (by simp) ?_
  refine AllReadyH.cons (o := _) rfl (fun K hK => ?_) AllReadyH.nil
  go_simp
  go_at_call 86
  refine (HS1.out _ (HB.out.trans (hHeld.mono HB.out.size))).mono ?_
  rintro e w2 ⟨hb2, vx, x, rfl, hx1, hx2⟩
  have HV2' := Lib.hid (hHeld.trans (hb2.mono hHeld.size))
  have HX := Lib.hid hx1
  have HXs := Lib.hid hx2
  clear hb2 hx1 hx2
  refine hK.out _ _ HV2'.out (fun hHeld2 => ?_)
  clear hK K
  refine wpAnyH_ready (rs := [5]) (by kernel_rfl) (by simp) ?_
  refine AllReadyH.cons (o := _) rfl (fun K hK => ?_) AllReadyH.nil
  go_simp
  go_at_call 86
  refine (HS2.out _ (HB.out.trans (HV2'.out.mono HB.out.size))).mono ?_
  rintro e w3 ⟨hb3, vy, y, rfl, hy1, hy2⟩
  have HV3 := Lib.hid (HV2'.out.trans (hb3.mono HV2'.out.size))
  have HX3 := Lib.hid (HX.out.below hb3)
  have HYv := Lib.hid hy1
  have HYs := Lib.hid hy2
  clear hb3 hy1 hy2
  refine hK.out _ _ HV3.out (fun hHeld3 => ?_)
  clear hK K
  refine wpAnyH_takeD (i := 6) (v := ?_) 10 rfl (by kernel_rfl) (by kernel_rfl) (by kernel_rfl) (fun _ _ _ h => h) (Or.inl ⟨by rfl, ?_⟩) (by assumption) rfl ?_
  rotate_left
  · intro w' hSw
    go_simp <;> with_reducible rfl
  simp only [List.setIfInBounds_toArray, List.set_cons_succ, List.set_cons_zero]
  refine wpAnyH_takeD (i := 7) (v := ?_) 11 rfl (by kernel_rfl) (by kernel_rfl) (by kernel_rfl) (fun _ _ _ h => h) (Or.inl ⟨by rfl, ?_⟩) (by assumption) rfl ?_
  rotate_left
  · intro w' hSw
    go_simp <;> with_reducible rfl
  simp only [List.setIfInBounds_toArray, List.set_cons_succ, List.set_cons_zero]
  refine wpAnyH_done (by kernel_rfl) ?_ _
  clear hHeld hHeld2 hHeld3 z0 z1
  have HB3 := Lib.hid (HB.out.trans (HV3.out.mono HB.out.size))
  clear HB HY HV2' HV3 HX HS1 HS2
  have hx := HX3.out
  have hy := HYv.out
  obtain ⟨Ax, nx, cx, rfl, hlx, hcx1, hcx2, hcx⟩ := hx.open2 (by decide)
  obtain ⟨Ay, ny, cy, rfl, hly, hcy1, hcy2, hcy⟩ := hy.open2 (by decide)
  rw [List.length_map, HXs.out.1] at hlx
  rw [List.length_map, HYs.out.1] at hly
  obtain rfl : nx = ps.length := by omega
  obtain rfl : ny = ps.length := by omega
  have hpos := HPos.out
  obtain ⟨bx, ox, rfl, _, hcx⟩ := hcx hpos
  obtain ⟨by', oy, rfl, _, hcy⟩ := hcy hpos
  have HCx := Lib.hid (fun (k : Nat) (hk : k < ps.length) => hcx k (.int .i64 (x.getD k 0)) (by rw [List.getElem?_map, (HV1.out x HXs.out k hk).1]; rfl))
  have HCy := Lib.hid (fun (k : Nat) (hk : k < ps.length) => hcy k (.int .i64 (y.getD k 0)) (by rw [List.getElem?_map, (HV2.out y HYs.out k hk).1]; rfl))
  have HR0 := Lib.hid (RBest.start x y)
  clear hlx hly hcx hcy hx hy HX3 HYv hpos
  go_wp2
  go_loopw [12, 13] (fun t12 ti wr => ∃ (k : Nat) (best : Int), ti = .int .i64 k ∧ t12 = .int .i64 best ∧ k ≤ ps.length ∧ Hid (RBest x y k best) ∧ Hid (Below w3.heap.size w3 wr)) (fun _ ti _ => ps.length - (intOf ti).toNat)
  case atStart => exact ⟨0, -1, rfl, rfl, by omega, HR0.out, Below.refl _ _⟩
  case round =>
    clear HR0
    obtain ⟨k, best, rfl, rfl, hk, HR, HU⟩ := hrel
    by_cases hlt : k < ps.length
    · have hki : (k : Int) < (ps.length : Int) := by omega
      have hk0 : (0 : Int) ≤ (k : Int) := by omega
      have d0 := below_cell HU.out (HCx.out k hlt)
      have d1 := below_cell HU.out (HCy.out k hlt)
      obtain ⟨_, r1, r2⟩ := HV1.out x HXs.out k hlt
      obtain ⟨_, r3, r4⟩ := HV2.out y HYs.out k hlt
      have HNo := Lib.hid (fun q => HR.out.no q)
      have HFi := Lib.hid (fun (e : best = -1) p q => (e ▸ HR.out : RBest x y k (-1)).first p q)
      have HSt := Lib.hid (fun (m : Nat) (e : best = (m : Int)) p q => (e ▸ HR.out : RBest x y k (m : Int)).stay p q)
      have HBe := Lib.hid (fun (m : Nat) (e : best = (m : Int)) p q s => (e ▸ HR.out : RBest x y k (m : Int)).better p q s)
      have hcase : best = -1 ∨ ∃ m : Nat, best = (m : Int) ∧ m < k := by
        rcases HR.out with ⟨q, _⟩ | ⟨m, q1, q2, _⟩
        · exact .inl q
        · exact .inr ⟨m, q1, q2⟩
      obtain ⟨X, hX⟩ : ∃ X, x.getD k 0 = X := ⟨_, rfl⟩
      obtain ⟨Y, hY⟩ : ∃ Y, y.getD k 0 = Y := ⟨_, rfl⟩
      simp only [hX, hY] at d0 d1 r1 r2 r3 r4 HNo HFi HSt HBe
      clear hX hY
      by_cases n0 : X < 0
      · have n1 : decide (X < 0) = true := decide_eq_true n0
        have HQ := Lib.hid (HNo.out (.inl n0))
        clear hcase r1 r2 r3 r4
        go_wp2
        go_roundw
        case rel => exact ⟨k + 1, best, by go_num, rfl, by omega, HQ.out, HU.out⟩
        case measure => simp [intOf]; omega
      · have n1 : decide (X < 0) = false := decide_eq_false n0
        by_cases m0 : Y < 0
        · have m1 : decide (Y < 0) = true := decide_eq_true m0
          have HQ := Lib.hid (HNo.out (.inr m0))
          clear hcase r1 r2 r3 r4
          go_wp2
          go_roundw
          case rel => exact ⟨k + 1, best, by go_num, rfl, by omega, HQ.out, HU.out⟩
          case measure => simp [intOf]; omega
        · have m1 : decide (Y < 0) = false := decide_eq_false m0
          rcases hcase with rfl | ⟨m, rfl, hm⟩
          · have HQ := Lib.hid (HFi.out rfl (by omega) (by omega))
            have q1 : decide ((-1 : Int) < 0) = true := rfl
            clear r1 r2 r3 r4
            go_upto_region 10 with fail
            go_quiet (fail)
            go_wp2
            go_roundw
            case rel => exact ⟨k + 1, (k : Int), by go_num, rfl, by omega, HQ.out, below_drewN HU.out _⟩
            case measure => simp [intOf]; omega
          · have hml : m < ps.length := by omega
            have hmi : (m : Int) < (ps.length : Int) := by omega
            have hm0 : (0 : Int) ≤ (m : Int) := by omega
            have d2 := below_cell HU.out (HCx.out m hml)
            have d3 := below_cell HU.out (HCy.out m hml)
            obtain ⟨_, s1, s2⟩ := HV1.out x HXs.out m hml
            obtain ⟨_, s3, s4⟩ := HV2.out y HYs.out m hml
            have HSt2 := Lib.hid (fun p q => HSt.out m rfl p q)
            have HBe2 := Lib.hid (fun p q s => HBe.out m rfl p q s)
            obtain ⟨P, hP⟩ : ∃ X, x.getD m 0 = X := ⟨_, rfl⟩
            obtain ⟨Q, hQ⟩ : ∃ Y, y.getD m 0 = Y := ⟨_, rfl⟩
            simp only [hP, hQ] at d2 d3 s1 s2 s3 s4 HSt2 HBe2
            clear hP hQ HSt HBe HFi HNo
            have q0 : ¬ (m : Int) < 0 := by omega
            have q1 : decide ((m : Int) < 0) = false := decide_eq_false q0
            have u1 : IntKind.i64.wrap (X + Y) = X + Y := IntWalk.i64_in _ (by omega)
            have u2 : IntKind.i64.wrap (P + Q) = P + Q := IntWalk.i64_in _ (by omega)
            by_cases e1 : X + Y < P + Q
            · have t1 : decide (X + Y < P + Q) = true := decide_eq_true e1
              have HQ := Lib.hid (HBe2.out (by omega) (by omega) (.inl e1))
              clear r1 r2 r3 r4 s1 s2 s3 s4
              go_upto_region 10 with fail
              go_quiet (fail)
              go_wp2
              go_roundw
              case rel => exact ⟨k + 1, (k : Int), by go_num, rfl, by omega, HQ.out, below_drewN HU.out _⟩
              case measure => simp [intOf]; omega
            · have t1 : decide (X + Y < P + Q) = false := decide_eq_false e1
              by_cases e2 : X + Y = P + Q
              · have t2 : (X + Y == P + Q) = true := beq_iff_eq.2 e2
                by_cases e3 : X < P
                · have t3 : decide (X < P) = true := decide_eq_true e3
                  have HQ := Lib.hid (HBe2.out (by omega) (by omega) (.inr ⟨e2, e3⟩))
                  clear r1 r2 r3 r4 s1 s2 s3 s4 e2
                  go_upto_region 10 with fail
                  go_quiet (fail)
                  go_wp2
                  go_roundw
                  case rel => exact ⟨k + 1, (k : Int), by go_num, rfl, by omega, HQ.out, below_drewN HU.out _⟩
                  case measure => simp [intOf]; omega
                · have t3 : decide (X < P) = false := decide_eq_false e3
                  have HQ := Lib.hid (HSt2.out e1 (fun z => e3 z.2))
                  clear r1 r2 r3 r4 s1 s2 s3 s4 e2
                  go_upto_region 10 with fail
                  go_quiet (fail)
                  go_wp2
                  go_roundw
                  case rel => exact ⟨k + 1, (m : Int), by go_num, rfl, by omega, HQ.out, below_drewN HU.out _⟩
                  case measure => simp [intOf]; omega
              · have t2 : (X + Y == P + Q) = false := beq_eq_false_iff_ne.2 e2
                have HQ := Lib.hid (HSt2.out e1 (fun z => e2 z.1))
                clear r1 r2 r3 r4 s1 s2 s3 s4 e2
                go_upto_region 10 with fail
                go_quiet (fail)
                go_wp2
                go_roundw
                case rel => exact ⟨k + 1, (m : Int), by go_num, rfl, by omega, HQ.out, below_drewN HU.out _⟩
                case measure => simp [intOf]; omega
    · have hkk : k = ps.length := by omega
      rw [hkk] at HR
      have HBz := Lib.hid (HB3.out.trans (HU.out.mono HB3.out.size))
      have hcase : best = -1 ∨ ∃ m : Nat, best = (m : Int) ∧ m < ps.length := by
        rcases HR.out with ⟨q, _⟩ | ⟨m, q1, q2, _⟩
        · exact .inl q
        · exact .inr ⟨m, q1, q2⟩
      clear hkk
      rcases hcase with rfl | ⟨m, rfl, hm⟩
      · have q1 : decide ((-1 : Int) < 0) = true := rfl
        go_wp2
        go_ret3
        exact ⟨HBz.out, x, y, -1, HXs.out, HYs.out, HR.out, .inl ⟨rfl, rfl⟩⟩
      · have hmi : (m : Int) < (ps.length : Int) := by omega
        have hm0 : (0 : Int) ≤ (m : Int) := by omega
        have q0 : ¬ (m : Int) < 0 := by omega
        have q1 : decide ((m : Int) < 0) = false := decide_eq_false q0
        have d2 := below_cell HU.out (HCx.out m hm)
        have d3 := below_cell HU.out (HCy.out m hm)
        go_upto_region 14 with fail
        go_quiet (fail)
        go_wp2
        go_ret3
        exact ⟨below_drewN HBz.out _, x, y, m, HXs.out, HYs.out, HR.out, .inr ⟨m, rfl, rfl⟩⟩
end

section
open Go Go.RowKit Go.Shelf
attribute [local go_sem] Oper.semAt_some

/-- Truths as cells. -/
def vsB (l : List Bool) : Array Value := (l.map Value.bool).toArray
theorem vsB_get {l : List Bool} {m : Nat} {x : Bool} (h : l[m]? = some x) : (vsB l)[m]? = some (.bool x) := by
  unfold vsB
  rw [List.getElem?_toArray, List.getElem?_map, h]
  rfl
theorem vsB_set (l : List Bool) (m : Nat) (x : Bool) : (vsB l).setIfInBounds m (.bool x) = vsB (l.set m x) := by
  unfold vsB
  rw [List.setIfInBounds_toArray, List.map_set]
theorem made_bools (n : Nat) : madeCells (Value.bool false).cells (n * 1) = vsB (List.replicate n false) := by
  unfold vsB
  rw [List.map_replicate, Nat.mul_one]
  apply Array.ext'
  simp only [madeCells, Value.cells]
  refine List.ext_getElem? fun j => ?_
  by_cases hj : j < n <;> simp [hj, Nat.mod_one]
theorem infoBool : (Tryz.prog.info? 4).map (fun i => (i.zero, i.size, i.bytes)) = some (some (.bool false), 1, 1) := by kernel_rfl
/-- Is somebody above a parent among the first so many people? -/
noncomputable def AncI (ps : List ByteArray) (fs : List Fa) (a : ByteArray) (i : Nat) (s : ByteArray) : Bool := @decide (∃ (j : Nat) (r : ByteArray), j < i ∧ ps[j]? = some r ∧ Par fs a r ∧ Up fs r s) (Classical.propDecidable _)
theorem ancI_iff {ps : List ByteArray} {fs : List Fa} {a s : ByteArray} {i : Nat} : AncI ps fs a i s = true ↔ ∃ (j : Nat) (r : ByteArray), j < i ∧ ps[j]? = some r ∧ Par fs a r ∧ Up fs r s := by
  unfold AncI
  exact @decide_eq_true_iff _ (Classical.propDecidable _)
theorem ancI_zero (ps : List ByteArray) (fs : List Fa) (a s : ByteArray) : AncI ps fs a 0 s = false := by
  rw [Bool.eq_false_iff]
  intro q
  obtain ⟨j, _, hj, _⟩ := ancI_iff.1 q
  exact absurd hj (Nat.not_lt_zero _)
theorem ancI_skip {ps : List ByteArray} {fs : List Fa} {a r s : ByteArray} {i : Nat} (hi : ps[i]? = some r) (hr : ¬ Par fs a r) : AncI ps fs a (i + 1) s = AncI ps fs a i s := by
  rw [Bool.eq_iff_iff, ancI_iff, ancI_iff]
  constructor
  · rintro ⟨j, t, h1, h2, h3, h4⟩
    rcases Nat.lt_succ_iff_lt_or_eq.1 h1 with z | z
    · exact ⟨j, t, z, h2, h3, h4⟩
    · rw [z, hi] at h2; cases h2; exact absurd h3 hr
  · rintro ⟨j, t, h1, h2, h3, h4⟩
    exact ⟨j, t, by omega, h2, h3, h4⟩
theorem ancI_take {ps : List ByteArray} {fs : List Fa} {a r s : ByteArray} {i : Nat} {x : Int} (hi : ps[i]? = some r) (hr : Par fs a r) (hx : 0 ≤ x ↔ Up fs r s) : AncI ps fs a (i + 1) s = (AncI ps fs a i s || decide (0 ≤ x)) := by
  rw [Bool.eq_iff_iff, ancI_iff, Bool.or_eq_true, ancI_iff, decide_eq_true_eq, hx]
  constructor
  · rintro ⟨j, t, h1, h2, h3, h4⟩
    rcases Nat.lt_succ_iff_lt_or_eq.1 h1 with z | z
    · exact .inl ⟨j, t, z, h2, h3, h4⟩
    · rw [z, hi] at h2; cases h2; exact .inr h4
  · rintro (⟨j, t, h1, h2, h3, h4⟩ | q)
    · exact ⟨j, t, by omega, h2, h3, h4⟩
    · exact ⟨i, r, by omega, hi, hr, q⟩
theorem ancI_all {ps : List ByteArray} {fs : List Fa} {a s : ByteArray} (hf : AllAbout ps fs) : AncI ps fs a ps.length s = true ↔ Anc fs a s := by
  rw [ancI_iff]
  constructor
  · rintro ⟨j, t, _, _, h3, h4⟩
    exact ⟨t, h3, h4⟩
  · rintro ⟨p, hp, hu⟩
    obtain ⟨j, hj⟩ := List.mem_iff_getElem?.1 (par_mem hf a p hp)
    exact ⟨j, p, (List.getElem?_eq_some_iff.1 hj).1, hj, hp, hu⟩
/-- The marks while the i-th one's are being set. -/
def Mk (ps : List ByteArray) (fs : List Fa) (a : ByteArray) (i j : Nat) (l : List Bool) : Prop := l.length = ps.length ∧ ∀ (m : Nat) (s : ByteArray), ps[m]? = some s → l[m]? = some (if m < j then AncI ps fs a (i + 1) s else AncI ps fs a i s)
theorem Mk.start (ps : List ByteArray) (fs : List Fa) (a : ByteArray) : Mk ps fs a 0 0 (List.replicate ps.length false) := by
  refine ⟨by simp, fun m s hs => ?_⟩
  rw [if_neg (Nat.not_lt_zero _), ancI_zero, List.getElem?_replicate, if_pos (List.getElem?_eq_some_iff.1 hs).1]
theorem Mk.skip {ps : List ByteArray} {fs : List Fa} {a r : ByteArray} {i : Nat} {l : List Bool} (h : Mk ps fs a i 0 l) (hi : ps[i]? = some r) (hr : ¬ Par fs a r) : Mk ps fs a (i + 1) 0 l := by
  refine ⟨h.1, fun m s hs => ?_⟩
  have := h.2 m s hs
  rw [if_neg (Nat.not_lt_zero _)] at this ⊢
  rw [ancI_skip hi hr]
  exact this
theorem Mk.next {ps : List ByteArray} {fs : List Fa} {a r s : ByteArray} {i j : Nat} {x : Int} {q : Bool} {l : List Bool} (h : Mk ps fs a i j l) (hi : ps[i]? = some r) (hr : Par fs a r) (hj : ps[j]? = some s) (hx : 0 ≤ x ↔ Up fs r s) (hq : l[j]? = some q) : Mk ps fs a i (j + 1) (l.set j (q || decide (0 ≤ x))) := by
  have hjl : j < l.length := (List.getElem?_eq_some_iff.1 hq).1
  have hqs : q = AncI ps fs a i s := by
    have := h.2 j s hj
    rw [hq, if_neg (Nat.lt_irrefl _)] at this
    exact Option.some.inj this
  refine ⟨by rw [List.length_set]; exact h.1, fun m t ht => ?_⟩
  by_cases e : j = m
  · subst e
    rw [hj] at ht
    cases ht
    rw [List.getElem?_set_self hjl, if_pos (Nat.lt_succ_self _), ancI_take hi hr hx, hqs]
  · rw [List.getElem?_set_ne e, h.2 m t ht]
    by_cases z : m < j
    · rw [if_pos z, if_pos (by omega)]
    · rw [if_neg z, if_neg (by omega)]
theorem Mk.up {ps : List ByteArray} {fs : List Fa} {a : ByteArray} {i j : Nat} {l : List Bool} (h : Mk ps fs a i j l) (hj : ps.length ≤ j) : Mk ps fs a (i + 1) 0 l := by
  refine ⟨h.1, fun m s hs => ?_⟩
  have hm := (List.getElem?_eq_some_iff.1 hs).1
  have := h.2 m s hs
  rw [if_pos (by omega)] at this
  rw [if_neg (Nat.not_lt_zero _)]
  exact this
set_option maxRecDepth 100000 in
set_option maxHeartbeats 8000000 in
theorem ranc_bad (r : Int) (hr : r = 3 ∨ r = 100 ∨ r = 2) (A : Option Addr) (c : Nat) (F : Option Addr) (d : Nat) (ps : List ByteArray) (fs : List Fa) (a : ByteArray) (w : World) (h : NetC w A ps.length c F fs.length d ps fs) (hs : Short ps) (hc : namedF ps fs [a, a] = r) :
    Calls Tryz.prog 34 #[.agg #[.slice A ps.length c, .slice F fs.length d], .string a] w (NamesP [] r w) := by
  have hb0 := below_alloc' w (.cells #[.slice A ps.length c, .slice F fs.length d] 25)
  have y0 := Cel.new w 25 #[.slice A ps.length c, .slice F fs.length d]
  have HK := Lib.hid (asked_any A ps.length c F fs.length d ps fs a a _ (h.below hb0) hs)
  rw [hc] at HK
  clear h hs hc
  rcases hr with rfl | rfl | rfl
  all_goals
    go_enter Tryz.func34, Tryz.ntmps34
    go_wp2_with fail
    refine HK.out.mono ?_
    rintro e w1 ⟨rfl, hb1⟩
    have HB := Lib.hid (hb0.trans (hb1.mono hb0.size))
    have HY := Lib.hid (y0.below y0.lt hb1)
    clear hb0 hb1 y0 HK
    go_wp2
    go_ret2
    exact ⟨HB.out, _, rfl, Sl.nil0 _ _⟩
set_option maxRecDepth 100000 in
set_option maxHeartbeats 8000000 in
theorem ranc_good (A : Option Addr) (c : Nat) (F : Option Addr) (d : Nat) (ps : List ByteArray) (fs : List Fa) (a : ByteArray) (w : World) (h : NetC w A ps.length c F fs.length d ps fs) (hs : Short ps) (hc : namedF ps fs [a, a] = 0) (hp : ps.length ≤ 24) (hf : AllAbout ps fs) (ha : a ∈ ps) :
    Calls Tryz.prog 34 #[.agg #[.slice A ps.length c, .slice F fs.length d], .string a] w (NamesP (ps.filter (AncI ps fs a ps.length)) 0 w) := by
  have hb0 := below_alloc' w (.cells #[.slice A ps.length c, .slice F fs.length d] 25)
  have y0 := Cel.new w 25 #[.slice A ps.length c, .slice F fs.length d]
  have HK := Lib.hid (asked_any A ps.length c F fs.length d ps fs a a _ (h.below hb0) hs)
  rw [hc] at HK
  have hmk : ∀ W : World, (Instr.makeSlice 117 (.int .i64 (ps.length : Int)) (.int .i64 (ps.length : Int))).run Tryz.prog W = .ok (.slice (some ⟨W.heap.size, 0, none⟩) ps.length ps.length) (W.alloc (.cells (vsB (List.replicate ps.length false)) 4)) := by
    intro W
    obtain ⟨i, hi, hz0, hz1, hz2⟩ := info_parts infoBool
    have hr := run_make (P := Tryz.prog) W 117 4 i (.bool false) Tryz.underlying117 hi hz0 .i64 .i64 (ps.length : Int) (ps.length : Int) (by omega) (Int.le_refl _) (by rw [hz2]; omega) (by omega)
    simp only [Int.toNat_natCast] at hr
    rw [hr, hz1, made_bools]
  have HPa := Lib.hid (fun s w' (hw : Below w.heap.size w w') => parent_any A ps.length c F fs.length d ps fs a s w' (h.below hw))
  have HSt := Lib.hid (fun r (hr : r ∈ ps) w' (hw : Below w.heap.size w w') => rsteps_any A c F d ps fs r w' (h.below hw) hp hr hf)
  have HP := Lib.hid hp
  obtain ⟨b0, o0, hA, _, hce⟩ := h.person (List.length_pos_of_mem ha)
  subst hA
  have HCe := Lib.hid (fun k s hk => hce k s hk)
  have hn63 : (ps.length : Int) ≤ 9223372036854775807 := by omega
  clear h hs hc hce ha hf hp
  go_enter Tryz.func34, Tryz.ntmps34
  go_wp2_with fail
  refine HK.out.mono ?_
  rintro e w1 ⟨rfl, hb1⟩
  have HB := Lib.hid (hb0.trans (hb1.mono hb0.size))
  have HY := Lib.hid (y0.below y0.lt hb1)
  clear hb0 hb1 y0 HK
  have z0 := HY.out.cell 0 _ rfl
  go_upto_region 5 with fail
  clear hmk z0
  have HC := Lib.hid (Cel.new w1 4 (vsB (List.replicate ps.length false)))
  have HY1 := Lib.hid (HY.out.alloc (.cells (vsB (List.replicate ps.length false)) 4))
  have HB1 := Lib.hid (HB.out.alloc HB.out.size (.cells (vsB (List.replicate ps.length false)) 4))
  have HBi := Lib.hid (show w.heap.size < w1.heap.size from HY.out.lt)
  clear HY HB
  generalize w1.alloc (.cells (vsB (List.replicate ps.length false)) 4) = W0 at *
  generalize w1.heap.size = Bi at *
  go_wp2
  go_loopw [8] (fun ti wr => ∃ (i : Nat) (l : List Bool), ti = .int .i64 i ∧ i ≤ ps.length ∧ Hid (Mk ps fs a i 0 l) ∧ Hid (Cel wr Bi 4 (vsB l)) ∧ Hid (Cel wr w.heap.size 25 #[.slice (some ⟨b0, o0, none⟩) ps.length c, .slice F fs.length d]) ∧ Hid (Below w.heap.size w wr)) (fun ti _ => ps.length - (intOf ti).toNat)
  case atStart => exact ⟨0, _, rfl, by omega, Mk.start ps fs a, HC.out, HY1.out, HB1.out⟩
  case round =>
    clear HC HY1 HB1
    obtain ⟨i, l, rfl, hi, HM, HC, HY, HB⟩ := hrel
    obtain ⟨wo, hwo⟩ : ∃ wo, wo = wr := ⟨_, rfl⟩
    rw [← hwo] at HC HY HB ⊢
    clear hwo
    have z0 := HY.out.cell 0 _ rfl
    have z1 := HY.out.cell 1 _ rfl
    by_cases hlt : i < ps.length
    · have hii : (i : Int) < (ps.length : Int) := by omega
      have hi0 : (0 : Int) ≤ (i : Int) := by omega
      have hget : ps[i]? = some ps[i] := List.getElem?_eq_getElem hlt
      have HIn := Lib.hid (List.getElem_mem hlt)
      have HG := Lib.hid hget
      have HD := Lib.hid (HCe.out i _ hget)
      have c1 := below_cell HB.out HD.out
      clear hget
      generalize ps[i] = r at *
      have HPs := Lib.hid (HPa.out r)
      have HSs := Lib.hid (HSt.out r HIn.out)
      obtain ⟨p, hpb⟩ : ∃ p, parB fs a r = p := ⟨_, rfl⟩
      have HPr := Lib.hid (show p = true ↔ Par fs a r by rw [← hpb]; exact parB_iff)
      rw [hpb] at HPs
      clear hpb
      go_upto_region 8 with fail
      refine wp_region_held_drew (S := fun w' => Below wo.heap.size wo w') (by kernel_rfl) (below_drew (Below.refl _ _)) (fun hHeld => ?_)
      refine wpAnyH_takeD (i := 0) (v := ?_) 31 rfl (by kernel_rfl) (by kernel_rfl) (by kernel_rfl) (fun _ _ _ h => h) (Or.inl ⟨by rfl, ?_⟩) (by assumption) rfl ?_
      rotate_left
      · intro w' hSw
        have z0 := below_cell hSw z0; have z1 := below_cell hSw z1; have c1 := below_cell hSw c1
        go_simp <;> with_reducible rfl
      simp only [List.setIfInBounds_toArray, List.set_cons_succ, List.set_cons_zero]
      refine wpAnyH_takeD (i := 1) (v := ?_) 32 rfl (by kernel_rfl) (by kernel_rfl) (by kernel_rfl) (fun _ _ _ h => h) (Or.inl ⟨by rfl, ?_⟩) (by assumption) rfl ?_
      rotate_left
      · intro w' hSw
        have z0 := below_cell hSw z0; have z1 := below_cell hSw z1; have c1 := below_cell hSw c1
        go_simp <;> with_reducible rfl
      simp only [List.setIfInBounds_toArray, List.set_cons_succ, List.set_cons_zero]
      refine wpAnyH_takeD (i := 2) (v := ?_) 33 rfl (by kernel_rfl) (by kernel_rfl) (by kernel_rfl) (fun _ _ _ h => h) (Or.inl ⟨by rfl, ?_⟩) (by assumption) rfl ?_
      rotate_left
      · intro w' hSw
        have z0 := below_cell hSw z0; have z1 := below_cell hSw z1; have c1 := below_cell hSw c1
        go_simp <;> with_reducible rfl
      simp only [List.setIfInBounds_toArray, List.set_cons_succ, List.set_cons_zero]
      refine wpAnyH_takeD (i := 3) (v := ?_) 34 rfl (by kernel_rfl) (by kernel_rfl) (by kernel_rfl) (fun _ _ _ h => h) (Or.inl ⟨by rfl, ?_⟩) (by assumption) rfl ?_
      rotate_left
      · intro w' hSw
        have z0 := below_cell hSw z0; have z1 := below_cell hSw z1; have c1 := below_cell hSw c1
        go_simp <;> with_reducible rfl
      simp only [List.setIfInBounds_toArray, List.set_cons_succ, List.set_cons_zero]
      refine wpAnyH_takeD (i := 4) (v := ?_) 35 rfl (by kernel_rfl) (by kernel_rfl) (by kernel_rfl) (fun _ _ _ h => h) (Or.inl ⟨by rfl, ?_⟩) (by assumption) rfl ?_
      rotate_left
      · intro w' hSw
        have z0 := below_cell hSw z0; have z1 := below_cell hSw z1; have c1 := below_cell hSw c1
        go_simp <;> with_reducible rfl
      simp only [List.setIfInBounds_toArray, List.set_cons_succ, List.set_cons_zero]
      refine wpAnyH_takeD (i := 5) (v := ?_) 36 rfl (by kernel_rfl) (by kernel_rfl) (by kernel_rfl) (fun _ _ _ h => h) (Or.inl ⟨by rfl, ?_⟩) (by assumption) rfl ?_
      rotate_left
      · intro w' hSw
        have z0 := below_cell hSw z0; have z1 := below_cell hSw z1; have c1 := below_cell hSw c1
        go_simp <;> with_reducible rfl
      simp only [List.setIfInBounds_toArray, List.set_cons_succ, List.set_cons_zero]
      refine wpAnyH_takeD (i := 6) (v := ?_) 37 rfl (by kernel_rfl) (by kernel_rfl) (by kernel_rfl) (fun _ _ _ h => h) (Or.inl ⟨by rfl, ?_⟩) (by assumption) rfl ?_
      rotate_left
      · intro w' hSw
        have z0 := below_cell hSw z0; have z1 := below_cell hSw z1; have c1 := below_cell hSw c1
        go_simp <;> with_reducible rfl
      simp only [List.setIfInBounds_toArray, List.set_cons_succ, List.set_cons_zero]
      refine wpAnyH_ready (rs := [7]) (by kernel_rfl) (by simp) ?_
      refine AllReadyH.cons (o := _) rfl (fun K hK => ?_) AllReadyH.nil
      go_simp
      go_at_call 83
      refine (HPs.out _ (HB.out.trans (hHeld.mono HB.out.size))).mono ?_
      rintro e w41 ⟨rfl, hb41⟩
      have HV41 := Lib.hid (hHeld.trans (hb41.mono hHeld.size))
      clear hb41
      refine hK.out _ _ HV41.out (fun hHeld2 => ?_)
      clear hK K
      refine wpAnyH_takeD (i := 8) (v := ?_) 39 rfl (by kernel_rfl) (by kernel_rfl) (by kernel_rfl) (fun _ _ _ h => h) (Or.inl ⟨by rfl, ?_⟩) (by assumption) rfl ?_
      rotate_left
      · intro w' hSw
        go_simp <;> with_reducible rfl
      simp only [List.setIfInBounds_toArray, List.set_cons_succ, List.set_cons_zero]
      refine wpAnyH_done (by kernel_rfl) ?_ _
      clear hHeld hHeld2
      have HC1 := Lib.hid (HC.out.below HC.out.lt HV41.out)
      have HY1 := Lib.hid (HY.out.below HY.out.lt HV41.out)
      have HB1 := Lib.hid (HB.out.trans (HV41.out.mono HB.out.size))
      clear c1 z0 z1 HC HY HB HV41
      have z0 := HY1.out.cell 0 _ rfl
      have z1 := HY1.out.cell 1 _ rfl
      have c1 := below_cell HB1.out HD.out
      cases p with
      | false =>
        have HM2 := Lib.hid (HM.out.skip HG.out (fun z => by have := HPr.out.2 z; cases this))
        go_wp2
        go_roundw
        case rel => exact ⟨i + 1, l, by go_num, by omega, HM2.out, HC1.out, HY1.out, HB1.out⟩
        case measure => simp [intOf]; omega
      | true =>
        have HPar := Lib.hid (HPr.out.1 rfl)
        clear HPr
        go_upto_region 9 with fail
        refine wp_region_held_drew (S := fun w' => Below w41.heap.size w41 w') (by kernel_rfl) (below_drew (Below.refl _ _)) (fun hHeld => ?_)
        refine wpAnyH_takeD (i := 0) (v := ?_) 40 rfl (by kernel_rfl) (by kernel_rfl) (by kernel_rfl) (fun _ _ _ h => h) (Or.inl ⟨by rfl, ?_⟩) (by assumption) rfl ?_
        rotate_left
        · intro w' hSw
          have z0 := below_cell hSw z0; have z1 := below_cell hSw z1; have c1 := below_cell hSw c1
          go_simp <;> with_reducible rfl
        simp only [List.setIfInBounds_toArray, List.set_cons_succ, List.set_cons_zero]
        refine wpAnyH_takeD (i := 1) (v := ?_) 41 rfl (by kernel_rfl) (by kernel_rfl) (by kernel_rfl) (fun _ _ _ h => h) (Or.inl ⟨by rfl, ?_⟩) (by assumption) rfl ?_
        rotate_left
        · intro w' hSw
          have z0 := below_cell hSw z0; have z1 := below_cell hSw z1; have c1 := below_cell hSw c1
          go_simp <;> with_reducible rfl
        simp only [List.setIfInBounds_toArray, List.set_cons_succ, List.set_cons_zero]
        refine wpAnyH_takeD (i := 2) (v := ?_) 42 rfl (by kernel_rfl) (by kernel_rfl) (by kernel_rfl) (fun _ _ _ h => h) (Or.inl ⟨by rfl, ?_⟩) (by assumption) rfl ?_
        rotate_left
        · intro w' hSw
          have z0 := below_cell hSw z0; have z1 := below_cell hSw z1; have c1 := below_cell hSw c1
          go_simp <;> with_reducible rfl
        simp only [List.setIfInBounds_toArray, List.set_cons_succ, List.set_cons_zero]
        refine wpAnyH_takeD (i := 3) (v := ?_) 43 rfl (by kernel_rfl) (by kernel_rfl) (by kernel_rfl) (fun _ _ _ h => h) (Or.inl ⟨by rfl, ?_⟩) (by assumption) rfl ?_
        rotate_left
        · intro w' hSw
          have z0 := below_cell hSw z0; have z1 := below_cell hSw z1; have c1 := below_cell hSw c1
          go_simp <;> with_reducible rfl
        simp only [List.setIfInBounds_toArray, List.set_cons_succ, List.set_cons_zero]
        refine wpAnyH_takeD (i := 4) (v := ?_) 44 rfl (by kernel_rfl) (by kernel_rfl) (by kernel_rfl) (fun _ _ _ h => h) (Or.inl ⟨by rfl, ?_⟩) (by assumption) rfl ?_
        rotate_left
        · intro w' hSw
          have z0 := below_cell hSw z0; have z1 := below_cell hSw z1; have c1 := below_cell hSw c1
          go_simp <;> with_reducible rfl
        simp only [List.setIfInBounds_toArray, List.set_cons_succ, List.set_cons_zero]
        refine wpAnyH_takeD (i := 5) (v := ?_) 45 rfl (by kernel_rfl) (by kernel_rfl) (by kernel_rfl) (fun _ _ _ h => h) (Or.inl ⟨by rfl, ?_⟩) (by assumption) rfl ?_
        rotate_left
        · intro w' hSw
          have z0 := below_cell hSw z0; have z1 := below_cell hSw z1; have c1 := below_cell hSw c1
          go_simp <;> with_reducible rfl
        simp only [List.setIfInBounds_toArray, List.set_cons_succ, List.set_cons_zero]
        refine wpAnyH_ready (rs := [6]) (by kernel_rfl) (by simp) ?_
        refine AllReadyH.cons (o := _) rfl (fun K hK => ?_) AllReadyH.nil
        go_simp
        go_at_call 86
        refine (HSs.out _ (HB1.out.trans (hHeld.mono HB1.out.size))).mono ?_
        rintro e w42 ⟨hb42, vx, x, rfl, hx1, hx2⟩
        have HV42 := Lib.hid (hHeld.trans (hb42.mono hHeld.size))
        have HX := Lib.hid hx1
        have HXs := Lib.hid hx2
        clear hb42 hx1 hx2
        refine hK.out _ _ HV42.out (fun hHeld2 => ?_)
        clear hK K
        refine wpAnyH_takeD (i := 7) (v := ?_) 9 rfl (by kernel_rfl) (by kernel_rfl) (by kernel_rfl) (fun _ _ _ h => h) (Or.inl ⟨by rfl, ?_⟩) (by assumption) rfl ?_
        rotate_left
        · intro w' hSw
          go_simp <;> with_reducible rfl
        simp only [List.setIfInBounds_toArray, List.set_cons_succ, List.set_cons_zero]
        refine wpAnyH_done (by kernel_rfl) ?_ _
        clear hHeld hHeld2
        have HC2 := Lib.hid (HC1.out.below HC1.out.lt HV42.out)
        have HY2 := Lib.hid (HY1.out.below HY1.out.lt HV42.out)
        have HB2 := Lib.hid (HB1.out.trans (HV42.out.mono HB1.out.size))
        clear c1 z0 z1 HC1 HY1 HB1 HV42
        have hx := HX.out
        obtain ⟨Ax, nx, cx, rfl, hlx, hcx1, hcx2, hcx⟩ := hx.open2 (by decide)
        rw [List.length_map, HXs.out.1] at hlx
        obtain rfl : nx = ps.length := by omega
        obtain ⟨bx, ox, rfl, hbx, hcx⟩ := hcx (by omega)
        have HCx := Lib.hid (fun (k : Nat) (z : Int) (hk : x[k]? = some z) => hcx k (.int .i64 z) (by rw [List.getElem?_map, hk]; rfl))
        clear hlx hcx hx HX
        obtain ⟨hfull, hX0⟩ : ∃ q : Unit, True := ⟨(), trivial⟩
        clear hX0 hfull
        go_wp2
        go_loopw [10] (fun ti wr => ∃ (k : Nat) (l : List Bool), ti = .int .i64 k ∧ k ≤ ps.length ∧ Hid (Mk ps fs a i k l) ∧ Hid (Cel wr Bi 4 (vsB l)) ∧ Hid (Cel wr w.heap.size 25 #[.slice (some ⟨b0, o0, none⟩) ps.length c, .slice F fs.length d]) ∧ Hid (Below w.heap.size w wr) ∧ Hid (∀ (k : Nat) (z : Int), x[k]? = some z → wr.cell? ⟨bx, ox + k, none⟩ = some (.int .i64 z))) (fun ti _ => ps.length - (intOf ti).toNat)
        case atStart => exact ⟨0, l, rfl, by omega, HM.out, HC2.out, HY2.out, HB2.out, HCx.out⟩
        case round =>
          clear HM HC2 HY2 HB2 HCx
          obtain ⟨k, l, rfl, hk, HM, HC, HY, HB, HCx⟩ := hrel
          by_cases hlk : k < ps.length
          · have hki : (k : Int) < (ps.length : Int) := by omega
            have hk0 : (0 : Int) ≤ (k : Int) := by omega
            have hgk : ps[k]? = some ps[k] := List.getElem?_eq_getElem hlk
            obtain ⟨X, hX⟩ : ∃ X, x[k]? = some X := ⟨_, List.getElem?_eq_getElem (by rw [HXs.out.1]; exact hlk)⟩
            obtain ⟨q, hq⟩ : ∃ q, l[k]? = some q := ⟨_, List.getElem?_eq_getElem (by rw [HM.out.1]; exact hlk)⟩
            have HM2 := Lib.hid (HM.out.next HG.out HPar.out hgk (HXs.out.up hgk hX) hq)
            have u0 := HCx.out k X hX
            have x0 := HC.out.cell k _ (vsB_get hq)
            have x1 := HC.out.frozen k
            have hne : bx ≠ Bi := fun e => by
              have := HC.out.cell k _ (vsB_get hq)
              have e2 := HCx.out k X hX
              rw [e] at e2
              simp [World.cell?, show wr.heap[Bi]? = _ from HC.out, vsB] at e2
            have HCm := Lib.hid (fun v => HC.out.setAt k v)
            have HYm := Lib.hid (fun v => HY.out.other (p := ⟨Bi, k, none⟩) (by have := HBi.out; show Bi ≠ w.heap.size; omega) v)
            have HBm := Lib.hid (fun v => HB.out.setCell (p := ⟨Bi, k, none⟩) (by have := HBi.out; show w.heap.size ≤ Bi; omega) v)
            have HXm := Lib.hid (fun (v : Value) (k' : Nat) (z : Int) (hz : x[k']? = some z) => show (wr.setCell ⟨Bi, k, none⟩ v).cell? ⟨bx, ox + k', none⟩ = some (.int .i64 z) by rw [World.cell?_setCell_far _ _ _ _ (show Bi ≠ bx from fun e => hne e.symm)]; exact HCx.out k' z hz)
            have hkl := HXs.out.1
            clear hgk hX hq hne hkl
            cases q with
            | true =>
              rw [Bool.true_or] at HM2
              have HC3 := Lib.hid (HCm.out (.bool true))
              rw [vsB_set] at HC3
              go_wp2
              go_roundw
              case rel => exact ⟨k + 1, _, by go_num, by omega, HM2.out, HC3.out, HYm.out _, HBm.out _, HXm.out _⟩
              case measure => simp [intOf]; omega
            | false =>
              rw [Bool.false_or] at HM2
              by_cases h0 : 0 ≤ X
              · have n1 : decide (0 ≤ X) = true := decide_eq_true h0
                rw [n1] at HM2
                have HC3 := Lib.hid (HCm.out (.bool true))
                rw [vsB_set] at HC3
                go_wp2
                go_roundw
                case rel => exact ⟨k + 1, _, by go_num, by omega, HM2.out, HC3.out, HYm.out _, HBm.out _, HXm.out _⟩
                case measure => simp [intOf]; omega
              · have n1 : decide (0 ≤ X) = false := decide_eq_false h0
                rw [n1] at HM2
                have HC3 := Lib.hid (HCm.out (.bool false))
                rw [vsB_set] at HC3
                go_wp2
                go_roundw
                case rel => exact ⟨k + 1, _, by go_num, by omega, HM2.out, HC3.out, HYm.out _, HBm.out _, HXm.out _⟩
                case measure => simp [intOf]; omega
          · have HM2 := Lib.hid (HM.out.up (by omega))
            go_wp2
            exact ⟨⟨i + 1, l, by go_num, by omega, HM2.out, HC.out, HY.out, HB.out⟩, by simp [intOf]; omega⟩
    · have hin : i = ps.length := by omega
      rw [hin] at HM
      have HL := Lib.hid (fun (m : Nat) (s : ByteArray) (hs : ps[m]? = some s) => show l[m]? = some (AncI ps fs a ps.length s) by have := HM.out.2 m s hs; rwa [if_neg (Nat.not_lt_zero _)] at this)
      have HO := Lib.hid (World.ownsRow_nil wo wo.heap.size 9 1)
      have HZ := Lib.hid (show Bi < wo.heap.size from HC.out.lt)
      have HSz := Lib.hid (Nat.le_refl wo.heap.size)
      have HWz := Lib.hid (show w.heap.size ≤ wo.heap.size from HB.out.size)
      clear hin
      go_wp2
      clear z0 z1
      obtain ⟨Bz, hBz⟩ : ∃ Bz, wo.heap.size = Bz := ⟨_, rfl⟩
      rw [hBz] at HO HZ HSz HWz
      have HSz' := Lib.hid (show Bz ≤ wo.heap.size by rw [hBz]; exact Nat.le_refl _)
      clear hBz HSz
      go_loopw [11, 12] (fun v11 ti wr => ∃ (k : Nat), ti = .int .i64 k ∧ k ≤ ps.length ∧ Hid (wr.ownsRow Bz 9 1 v11 ((ps.take k).filter (AncI ps fs a ps.length)).length (namesV ((ps.take k).filter (AncI ps fs a ps.length)))) ∧ Hid (Cel wr Bi 4 (vsB l)) ∧ Hid (Cel wr w.heap.size 25 #[.slice (some ⟨b0, o0, none⟩) ps.length c, .slice F fs.length d]) ∧ Hid (Below w.heap.size w wr) ∧ Hid (Bz ≤ wr.heap.size)) (fun _ ti _ => ps.length - (intOf ti).toNat)
      case atStart => exact ⟨0, rfl, by omega, HO.out, HC.out, HY.out, HB.out, HSz'.out⟩
      case round =>
        clear HO HC HY HB HSz'
        obtain ⟨k, rfl, hk, HO, HC, HY, HB, HSz⟩ := hrel
        obtain ⟨Ab, cb, rfl, _⟩ := own_shape HO.out
        by_cases hlk : k < ps.length
        · have hki : (k : Int) < (ps.length : Int) := by omega
          have hk0 : (0 : Int) ≤ (k : Int) := by omega
          have hget : ps[k]? = some ps[k] := List.getElem?_eq_getElem hlk
          have HF := Lib.hid (filter_snoc (AncI ps fs a ps.length) hget)
          have HLen := Lib.hid (filter_len (AncI ps fs a ps.length) ps k)
          have c1 := below_cell HB.out (HCe.out k _ hget)
          have x0 := HC.out.cell k _ (vsB_get (HL.out k _ hget))
          have z0 := HY.out.cell 0 _ rfl
          clear hget
          generalize ps[k] = s at *
          obtain ⟨q, hq⟩ : ∃ q, AncI ps fs a ps.length s = q := ⟨_, rfl⟩
          rw [hq] at HF x0
          clear hq
          cases q with
          | false =>
            have HF2 := Lib.hid (HF.out.trans (by rw [if_neg (by decide), List.append_nil]))
            clear HF
            go_wp2
            go_roundw
            case rel => exact ⟨k + 1, by go_num, by omega, by rw [HF2.out]; exact HO.out, HC.out, HY.out, HB.out, HSz.out⟩
            case measure => simp [intOf]; omega
          | true =>
            have HF2 := Lib.hid (HF.out.trans (by rw [if_pos rfl]))
            clear HF
            have HOa := Lib.hid (HO.out.alloc (.cells #[.string s] 9))
            have HCa := Lib.hid (HC.out.alloc (.cells #[.string s] 9))
            have HYa := Lib.hid (HY.out.alloc (.cells #[.string s] 9))
            have HBa := Lib.hid (HB.out.alloc HB.out.size (.cells #[.string s] 9))
            have HS1 := Lib.hid (Sl.new (s := 1) wr 9 1 1 #[.string s] rfl (Nat.le_refl _) (by decide))
            go_wp2_with (at_builtin; refine appStr _ _ rfl rfl rfl rfl HOa.out HS1.out (by simp [Value.oneCell']) (N := ((ps.take k).filter (AncI ps fs a ps.length)).length + 1) (by simp) (by have := HLen.out; have := HP.out; omega) (by have := HSz.out; simp; omega) ?_; intro A5 c5 w5 hap; have HB5 := Lib.hid (below_of_own hap.grown HOa.out HBa.out (by have := HWz.out; omega)); have HY5 := Lib.hid (HYa.out.kept hap.grown (fun e => by have := own_ge HOa.out e.symm; have := HZ.out; have := HBi.out; omega)); have HC5 := Lib.hid (HCa.out.kept hap.grown (fun e => by have := own_ge HOa.out e.symm; have := HZ.out; omega)); have HO5 := Lib.hid hap.own; have hg := hap.grown.size; have HSz5 := Lib.hid (show Bz ≤ w5.heap.size by have := HSz.out; simp at hg; omega); clear hap hg)
            go_roundw
            case rel => exact ⟨k + 1, by go_num, by omega, by rw [HF2.out, namesV_append, List.length_append]; exact HO5.out, HC5.out, HY5.out, HB5.out, HSz5.out⟩
            case measure => simp [intOf]; omega
        · have HKk := Lib.hid (show ps.take k = ps from List.take_of_length_le (by omega))
          have hq := Sl.of_own HO.out
          rw [show namesV ((ps.take k).filter (AncI ps fs a ps.length)) = namesV (ps.filter (AncI ps fs a ps.length)) by rw [HKk.out]] at hq
          have HQ := Lib.hid hq
          clear HKk hq
          go_wp2
          go_ret2
          exact ⟨HB.out, _, rfl, HQ.out⟩
end
end Go.Proofs.YtdmcopjbckelmaaGreatDoor
