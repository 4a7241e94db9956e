/- Walks of the reference: Has, CopyInts, named. Conditions: those stated. Walks of the reference: chosen, Contradiction. Conditions: those stated. -/
import Derived.Test.YtdmcopjbckelmaaGreatDoorZG5
import Derived.Test.YtdmcopjbckelmaaGreatDoorZU0
import Derived.Test.YtdmcopjbckelmaaGreatDoorZF1
import Derived.Test.YtdmcopjbckelmaaGreatDoorZG8
import Derived.Test.YtdmcopjbckelmaaGreatDoorZF
import Derived.BigQuiet
namespace Go.Proofs.YtdmcopjbckelmaaGreatDoor
section
open Go Go.RowKit Go.Shelf
attribute [local go_sem] Oper.semAt_some

set_option maxRecDepth 100000 in
set_option maxHeartbeats 4000000 in
theorem has_any (v : Value) (l : List Int) (x : Int) (w : World) (h : Sl w 1 v (l.map (Value.int .i64))) :
    Calls Tryz.prog 80 #[v, .int .i64 x] w fun e w' => e = .returned (.bool (l.contains x)) ∧ w = w' := by
  obtain ⟨A, c, rfl, hc1, hc2, hcell⟩ := ints_at0 h rfl
  have HC := Lib.hid hcell
  obtain ⟨r, hr⟩ : ∃ r, l.contains x = r := ⟨_, rfl⟩
  rw [hr]
  have HRr := Lib.hid hr
  clear h hcell hr
  go_enter Tryz.func80, Tryz.ntmps80
  go_wp2
  go_loop [5] (fun ti => ∃ i : Nat, ti = .int .i64 i ∧ i ≤ l.length ∧ Hid (∀ (j : Nat) y, j < i → l[j]? = some y → y ≠ x)) (fun ti => l.length - (intOf ti).toNat)
  case atStart => exact ⟨0, rfl, by omega, fun j y hj => absurd hj (Nat.not_lt_zero _)⟩
  case round =>
    obtain ⟨i, rfl, hi, HO⟩ := hrel
    by_cases hlt : i < l.length
    · have hii : (i : Int) < (l.length : Int) := by omega
      have hi0 : (0 : Int) ≤ (i : Int) := by omega
      obtain ⟨b, o, rfl, _, hce⟩ := HC.out (by omega)
      obtain ⟨y, hy⟩ : ∃ y, l[i]? = some y := ⟨_, List.getElem?_eq_getElem hlt⟩
      have c1 := hce i y hy
      clear hce
      by_cases hq : y = x
      · have b1 : (y == x) = true := beq_iff_eq.2 hq
        have HR := Lib.hid (show r = true by rw [← HRr.out, List.contains_iff_mem, ← hq]; exact List.mem_of_getElem? hy)
        clear hq hy
        go_wp2
        go_ret
        exact ⟨by rw [HR.out]; rfl, rfl⟩
      · have b1 : (y == x) = false := beq_eq_false_iff_ne.2 hq
        have HN := Lib.hid (show ∀ (j : Nat) z, j < i + 1 → l[j]? = some z → z ≠ x from fun j z hj hz => by
          rcases Nat.lt_succ_iff_lt_or_eq.1 hj with q | q
          · exact HO.out j z q hz
          · rw [q, hy] at hz; cases hz; exact hq)
        clear hq hy
        go_wp2
        exact ⟨⟨i + 1, by go_num, by omega, HN.out⟩, by simp [intOf]; omega⟩
    · have HR := Lib.hid (show r = false by
        rw [← HRr.out, Bool.eq_false_iff]
        intro z
        obtain ⟨j, hj⟩ := List.mem_iff_getElem?.1 (List.contains_iff_mem.1 z)
        exact HO.out j x (by have := (List.getElem?_eq_some_iff.1 hj).1; omega) hj rfl)
      go_wp2
      go_ret
      exact ⟨by rw [HR.out]; rfl, rfl⟩
theorem appIntB {ops : Array Oper} {rest : List Oper} {o : Oper} {a : Act} {Q : Exit → Act → World → Prop} {w : World} (s x : Operand) (hgd : o.guard = none) (ho : o.op = .call { callee := .builtin .append, args := #[s, x], argTypes := #[47, 47] })
    {base n : Nat} {v vx : Value} {xs news : List Value} (hs : a.eval s = v) (hx : a.eval x = vx) (hown : w.ownsRow base 3 1 v n xs) (hr : Sl w 1 vx news) (h1 : ∀ u ∈ news, u.oneCell' = true)
    {N : Nat} (hN : n * 1 + news.length = N * 1) (hb : N * 8 ≤ 140737488355328) (hbase : base ≤ w.heap.size)
    (h : ∀ A c w', Appended base 3 1 v xs news w w' A N c → wpList Tryz.prog ops Q rest (a.put o.dst (.slice A N c)) w') : wpList Tryz.prog ops Q (o :: rest) a w := by
  obtain ⟨i, hi, hz0, hz1, hz2⟩ := info_parts infoInt
  exact wpList_app w hgd s x 47 ho base 3 i (.int .i64 0) 1 8 Tryz.underlying47 hi hz0 hz1 hz2 rfl (by decide) v n xs hs hown vx news hx hr h1 N hN hb (by decide) hbase h
theorem ints_one (l : List Int) : ∀ u ∈ l.map (Value.int .i64), u.oneCell' = true := by
  intro u hu
  obtain ⟨x, _, rfl⟩ := List.mem_map.1 hu
  rfl
set_option maxRecDepth 100000 in
set_option maxHeartbeats 4000000 in
theorem copyInts_any (v : Value) (l : List Int) (w : World) (h : Sl w 1 v (l.map (Value.int .i64))) (hm : l.length * 8 ≤ 140737488355328) :
    Calls Tryz.prog 23 #[v] w fun e w' => ∃ v', e = .returned v' ∧ Below w.heap.size w w' ∧ w'.ownsRow w.heap.size 3 1 v' l.length (l.map (Value.int .i64)) := by
  have HS := Lib.hid h
  have HM := Lib.hid hm
  obtain ⟨A, n, c, rfl, _⟩ := h.shape
  clear h hm
  go_enter Tryz.func23, Tryz.ntmps23
  go_wp2_with (refine appIntB _ _ rfl rfl (by rfl) (by rfl) (World.ownsRow_nil _ w.heap.size _ _) HS.out (ints_one l) (N := l.length) (by rw [List.length_map]; omega) (by have := HM.out; omega) (Nat.le_refl _) ?_; intro A5 c5 w5 hap)
  have hB := below_grown hap.grown (fun g e => by cases e)
  have hO := hap.own
  rw [List.nil_append] at hO
  have HB := Lib.hid hB
  have HO := Lib.hid hO
  clear hap hB hO
  go_wp2
  go_ret
  exact ⟨_, rfl, HB.out, HO.out⟩
/-- Does one of the first so many facts name a person? -/
def nmB (fs : List Fa) (s : ByteArray) : Bool := fs.any fun f => decide (f.a = s) || decide (f.b = s)
theorem nmB_take {fs : List Fa} {j : Nat} {f : Fa} (h : fs[j]? = some f) (s : ByteArray) : nmB (fs.take (j + 1)) s = (nmB (fs.take j) s || (decide (f.a = s) || decide (f.b = s))) := by
  unfold nmB
  rw [List.take_add_one, h, List.any_append]
  simp
set_option maxRecDepth 100000 in
set_option maxHeartbeats 4000000 in
theorem rnamed_any (v vf : Value) (ps : List ByteArray) (fs : List Fa) (w : World) (h : Sl w 1 v (namesV ps)) (hf : Sl w 4 vf (fasV fs)) (hp : ps.length ≤ 1000) :
    Calls Tryz.prog 115 #[v, vf] w fun e w' => Below w.heap.size w w' ∧ ∃ A c, e = .returned (.slice A (nmF ps fs).length c) ∧ Sl w' 1 (.slice A (nmF ps fs).length c) (namesV (nmF ps fs)) := by
  obtain ⟨A, n, c, rfl, h⟩ := h.shape
  obtain ⟨F, m, d, rfl, hf⟩ := hf.shape
  have hN : NetC w A n c F m d ps fs := ⟨h, hf⟩
  obtain ⟨e1, e2, a1, a2, a3, a4⟩ := hN.many
  subst e1
  subst e2
  have HFc := Lib.hid (fun q => hN.fact q)
  have HPc := Lib.hid (fun q => hN.person q)
  clear h hf hN
  go_enter Tryz.func115, Tryz.ntmps115
  go_wp2
  go_loopw [5, 6] (fun v5 ti wr => ∃ k : Nat, ti = .int .i64 k ∧ k ≤ ps.length ∧ Hid (wr.ownsRow w.heap.size 9 1 v5 ((ps.take k).filter (nmB fs)).length (namesV ((ps.take k).filter (nmB fs)))) ∧ Hid (Below w.heap.size w wr)) (fun _ ti _ => ps.length - (intOf ti).toNat)
  case atStart => exact ⟨0, rfl, by omega, World.ownsRow_nil _ _ _ _, Below.refl _ _⟩
  case round =>
    obtain ⟨k, rfl, hk, HO, HB⟩ := hrel
    obtain ⟨wo, hwo⟩ : ∃ wo, wo = wr := ⟨_, rfl⟩
    rw [← hwo] at HO HB ⊢
    clear hwo
    obtain ⟨A7, c7, e7, _⟩ := own_shape HO.out
    subst e7
    by_cases hlt : k < ps.length
    · have hki : (k : Int) < (ps.length : Int) := by omega
      have hk0 : (0 : Int) ≤ (k : Int) := by omega
      obtain ⟨b0, o0, rfl, _, hce⟩ := HPc.out (by omega)
      obtain ⟨s, hget⟩ : ∃ s, ps[k]? = some s := ⟨_, List.getElem?_eq_getElem hlt⟩
      have HCs := Lib.hid (hce k s hget)
      have HSn := Lib.hid (filt_snoc (nmB fs) hget)
      have HLn := Lib.hid (filt_len (nmB fs) ps k)
      clear hce hget
      have HI0 := Lib.hid (Below.refl wo.heap.size wo)
      have HQ0 := Lib.hid (show false = nmB (fs.take 0) s from rfl)
      go_wp2
      go_loopw [7, 8] (fun t7 ti wr => ∃ (j : Nat) (q : Bool), ti = .int .i64 j ∧ t7 = .bool q ∧ Hid (q = nmB (fs.take j) s) ∧ j ≤ fs.length ∧ Hid (Below wo.heap.size wo wr)) (fun _ ti _ => fs.length - (intOf ti).toNat)
      case atStart => exact ⟨0, false, rfl, rfl, HQ0.out, by omega, HI0.out⟩
      case round =>
        clear HI0 HQ0
        obtain ⟨j, q, rfl, rfl, HQ, hj, HI⟩ := hrel
        have HBu := Lib.hid (HB.out.trans (HI.out.mono HB.out.size))
        by_cases hlj : j < fs.length
        · have hji : (j : Int) < (fs.length : Int) := by omega
          have hj0 : (0 : Int) ≤ (j : Int) := by omega
          obtain ⟨bF, oF, rfl, _, hcF⟩ := HFc.out (by omega)
          obtain ⟨f, hfj⟩ : ∃ f, fs[j]? = some f := ⟨_, List.getElem?_eq_getElem hlj⟩
          obtain ⟨g1, g2, g3, g4⟩ := hcF j f hfj
          replace g2 := below_cell HBu.out g2
          replace g3 := below_cell HBu.out g3
          have c1 := below_cell HBu.out HCs.out
          have HT := Lib.hid (nmB_take hfj s)
          clear hcF hfj g1 g4
          obtain ⟨fk, fa, fb, ft⟩ := f
          simp only at g2 g3 HT
          cases q with
          | true =>
            have HN := Lib.hid (show true = nmB (fs.take (j + 1)) s by rw [HT.out, ← HQ.out]; rfl)
            clear HT HQ
            go_upto_region 9 with fail
            go_quiet (fail)
            go_wp2
            exact ⟨⟨j + 1, true, by go_num, rfl, HN.out, by omega, below_drewN HI.out _⟩, by simp [intOf]; omega⟩
          | false =>
            by_cases q1 : fa = s
            · have b1 : (fa.toList == s.toList) = true := by rw [q1]; simp
              have HN := Lib.hid (show true = nmB (fs.take (j + 1)) s by rw [HT.out, ← HQ.out, decide_eq_true q1]; rfl)
              clear HT HQ q1
              go_upto_region 9 with fail
              go_quiet (fail)
              go_wp2
              exact ⟨⟨j + 1, true, by go_num, rfl, HN.out, by omega, below_drewN HI.out _⟩, by simp [intOf]; omega⟩
            · have b1 : (fa.toList == s.toList) = false := by rw [beqL]; exact decide_eq_false q1
              obtain ⟨p, hp⟩ : ∃ p, decide (fb = s) = p := ⟨_, rfl⟩
              have b2 : (fb.toList == s.toList) = p := by rw [beqL]; exact hp
              have HN := Lib.hid (show p = nmB (fs.take (j + 1)) s by rw [HT.out, ← HQ.out, decide_eq_false q1, ← hp]; rfl)
              clear HT HQ q1 hp
              cases p with
              | true =>
                go_upto_region 9 with fail
                go_quiet (fail)
                go_wp2
                exact ⟨⟨j + 1, true, by go_num, rfl, HN.out, by omega, below_drewN HI.out _⟩, by simp [intOf]; omega⟩
              | false =>
                go_upto_region 9 with fail
                go_quiet (fail)
                go_wp2
                exact ⟨⟨j + 1, false, by go_num, rfl, HN.out, by omega, below_drewN HI.out _⟩, by simp [intOf]; omega⟩
        · have HQe := Lib.hid (show q = nmB fs s by rw [HQ.out, List.take_of_length_le (by omega)])
          rw [← HQe.out] at HSn
          have HO1 := Lib.hid (own_below HO.out HI.out)
          clear HO HQ HQe HI HB
          cases q with
          | false =>
            have HE := Lib.hid (show (ps.take (k + 1)).filter (nmB fs) = (ps.take k).filter (nmB fs) from HSn.out.trans (by simp))
            clear HSn
            go_wp2
            exact ⟨⟨k + 1, by go_num, by omega, by rw [HE.out]; exact HO1.out, HBu.out⟩, by simp [intOf]; omega⟩
          | true =>
            have HE := Lib.hid (show (ps.take (k + 1)).filter (nmB fs) = (ps.take k).filter (nmB fs) ++ [s] from HSn.out.trans (by simp))
            clear HSn
            have c1 := below_cell HBu.out HCs.out
            have HOa := Lib.hid (HO1.out.alloc (.cells #[.string s] 9))
            have HBa := Lib.hid (HBu.out.alloc HBu.out.size (.cells #[.string s] 9))
            have HSb := Lib.hid (Sl.new (s := 1) wr 9 1 1 #[.string s] rfl (Nat.le_refl _) (by decide))
            go_wp2_with (at_builtin; refine appStr _ _ rfl rfl rfl rfl HOa.out HSb.out (by simp [Value.oneCell']) (N := ((ps.take k).filter (nmB fs)).length + 1) (by simp) (by have := HLn.out; omega) HBa.out.size ?_; intro A9 c9 w9 hap)
            have HB9 := Lib.hid (below_of_own hap.grown HOa.out HBa.out (Nat.le_refl _))
            have HO9 := Lib.hid hap.own
            clear hap c1 HOa HBa HSb
            go_wp2
            exact ⟨⟨k + 1, by go_num, by omega, by rw [HE.out, List.length_append, namesV_append]; exact HO9.out, HB9.out⟩, by simp [intOf]; omega⟩
    · have HE := Lib.hid (show (ps.take k).filter (nmB fs) = nmF ps fs by rw [List.take_of_length_le (by omega)]; rfl)
      rw [HE.out] at HO ⊢
      have HSl := Lib.hid (Sl.of_own HO.out)
      clear HE
      go_wp2
      go_ret
      exact ⟨HB.out, _, _, rfl, HSl.out⟩
end

section
open Go Go.RowKit Go.Shelf
attribute [local go_sem] Oper.semAt_some
/-- What chosen answers. -/
def ChosP (r : Option (List Nat)) (w : World) (e : Ending) (w' : World) : Prop :=
  Below w.heap.size w w' ∧ ∃ A n c, e = .returned (.tuple #[.slice A n c, .bool r.isSome]) ∧ ∀ s, r = some s → Sl w' 1 (.slice A n c) (natsV s)
theorem nats_at {w : World} {v : Value} {l : List Nat} (h : Sl w 1 v (natsV l)) : ∃ A c, v = .slice A l.length c ∧ l.length ≤ c ∧ (c : Int) ≤ 9223372036854775807 ∧ (0 < l.length → ∃ b o, A = some ⟨b, o, none⟩ ∧ b < w.heap.size ∧ ∀ (k : Nat) x, l[k]? = some x → w.cell? ⟨b, o + k, none⟩ = some (.int .i64 (x : Int))) := by
  obtain ⟨A, n, c, rfl, hl, hc, hm, hcl⟩ := h.open2 (by decide)
  rw [natsV_length] at hl
  obtain rfl : n = l.length := by omega
  refine ⟨A, c, rfl, hc, hm, fun hn => ?_⟩
  obtain ⟨b, o, rfl, hb, hce⟩ := hcl hn
  exact ⟨b, o, rfl, hb, fun k s hk => hce k _ (by simp [natsV, hk])⟩
theorem nats_ints (l : List Nat) : natsV l = (l.map Int.ofNat).map (Value.int .i64) := by
  unfold natsV
  rw [List.map_map]
  rfl
set_option maxRecDepth 100000 in
set_option maxHeartbeats 8000000 in
theorem rchosen_zero (A : Option Addr) (c : Nat) (F : Option Addr) (d : Nat) (ps : List ByteArray) (fs : List Fa) (v : Value) (l : List Nat) (i : Int) (w : World) (h : NetC w A ps.length c F fs.length d ps fs) (hp : ps.length ≤ 24) (hf : AllAbout ps fs) (hv : Sl w 1 v (natsV l)) (hl : l.length ≤ 4) (hi : ∀ j ∈ l, j < fs.length) (r : Option (List Nat)) (hr1 : badN ps (selF fs l) = true → r = some l) (hr2 : badN ps (selF fs l) = false → r = none) :
    Calls Tryz.prog 77 #[.agg #[.slice A ps.length c, .slice F fs.length d], v, .int .i64 i, .int .i64 0] w (ChosP r w) := by
  have HR1 := Lib.hid hr1
  have HR2 := Lib.hid hr2
  obtain ⟨Al, cl, rfl, hl1, hl2, hcell⟩ := nats_at hv
  obtain ⟨_, _, _, h1, _, h2⟩ := h.many
  have hb0 := below_alloc' w (.cells #[.slice A ps.length c, .slice F fs.length d] 25)
  have y0 := Cel.new w 25 #[.slice A ps.length c, .slice F fs.length d]
  have HY := Lib.hid y0
  have HB0 := Lib.hid hb0
  have HV := Lib.hid hv
  have HCl := Lib.hid hcell
  have HFc := Lib.hid (fun q => h.fact q)
  have HPs := Lib.hid h.people
  have HIx := Lib.hid hi
  have HNa := Lib.hid (fun vf w' (hw : Below w.heap.size w w') (hs : Sl w' 4 vf (fasV (selF fs l))) => rnamed_any (.slice A ps.length c) vf ps (selF fs l) w' (h.people.below hw) hs (by omega))
  have HSo := Lib.hid (fun v vf w' (hs : Sl w' 1 v (namesV (nmF ps (selF fs l)))) (hf' : Sl w' 4 vf (fasV (selF fs l))) => rsolved_any v vf (nmF ps (selF fs l)) (selF fs l) w' hs hf' (Nat.le_trans (nmF_len ps _) hp) (by unfold selF; rw [List.length_map]; omega) (nmF_about (sel_about hf hi)))
  clear h hv hcell hi y0 hb0 hr1 hr2
  go_enter Tryz.func77, Tryz.ntmps77
  go_upto_region 4 with fail
  generalize w.alloc (.cells #[.slice A ps.length c, .slice F fs.length d] 25) = W at *
  go_loopw [10, 11] (fun v10 ti wr => ∃ k : Nat, ti = .int .i64 k ∧ k ≤ l.length ∧ Hid (wr.ownsRow W.heap.size 76 4 v10 k (fasV (selF fs (l.take k)))) ∧ Hid (Below W.heap.size W wr)) (fun _ ti _ => l.length - (intOf ti).toNat)
  case atStart => exact ⟨0, rfl, by omega, World.ownsRow_nil _ _ _ _, Below.refl _ _⟩
  case round =>
    obtain ⟨k, rfl, hk, HO, HU⟩ := hrel
    obtain ⟨A7, c7, e7, _⟩ := own_shape HO.out
    subst e7
    by_cases hlt : k < l.length
    · have hki : (k : Int) < (l.length : Int) := by omega
      have hk0 : (0 : Int) ≤ (k : Int) := by omega
      obtain ⟨bl, ol, rfl, _, hcl⟩ := HCl.out (by omega)
      obtain ⟨j, hj⟩ : ∃ j, l[k]? = some j := ⟨_, List.getElem?_eq_getElem hlt⟩
      have hjf := HIx.out j (List.mem_of_getElem? hj)
      have hji : (j : Int) < (fs.length : Int) := by omega
      have hj0 : (0 : Int) ≤ (j : Int) := by omega
      obtain ⟨bF, oF, rfl, _, hcF⟩ := HFc.out (by omega)
      obtain ⟨f, hfj⟩ : ∃ f, fs[j]? = some f := ⟨_, List.getElem?_eq_getElem hjf⟩
      obtain ⟨g1, g2, g3, g4⟩ := hcF j f hfj
      have G1 := Lib.hid (below_cell HB0.out g1)
      have G2 := Lib.hid (below_cell HB0.out g2)
      have G3 := Lib.hid (below_cell HB0.out g3)
      have G4 := Lib.hid (below_cell HB0.out g4)
      have C1 := Lib.hid (below_cell HB0.out (hcl k j hj))
      have Z1 := Lib.hid (HY.out.cell 1 _ rfl)
      have HT := Lib.hid (show fasV (selF fs (l.take (k + 1))) = fasV (selF fs (l.take k)) ++ faV f by
        rw [List.take_add_one, hj]
        show fasV (selF fs (l.take k ++ [j])) = _
        rw [selF_snoc, fas_snoc, List.getD_eq_getElem?_getD, hfj]
        rfl)
      clear hcl hj hcF hfj g1 g2 g3 g4
      obtain ⟨fk, fa, fb, ft⟩ := f
      simp only at G1 G2 G3 G4
      unfold faV at HT
      simp only at HT
      go_upto_region 6 with fail
      refine wp_region_held_drew (S := fun w' => Below W.heap.size W w') (by kernel_rfl) (below_drew HU.out) (fun hHeld => ?_)
      have HO2 : Hid (wr.drew.ownsRow W.heap.size 76 4 (.slice A7 k c7) k (fasV (selF fs (l.take k)))) := HO
      clear HO HU
      generalize wr.drew = V at *
      refine wpAnyH_takeD (i := 0) (v := ?_) 25 rfl (by kernel_rfl) (by kernel_rfl) (by kernel_rfl) (fun _ _ _ h => h) (Or.inl ⟨by rfl, ?_⟩) (by assumption) rfl ?_
      rotate_left
      · intro w' hSw
        have g1 := below_cell hSw G1.out; have g2 := below_cell hSw G2.out; have g3 := below_cell hSw G3.out; have g4 := below_cell hSw G4.out; have c1 := below_cell hSw C1.out; have z1 := below_cell hSw Z1.out
        go_simp <;> with_reducible rfl
      simp only [List.setIfInBounds_toArray, List.set_cons_succ, List.set_cons_zero]
      refine wpAnyH_takeD (i := 1) (v := ?_) 26 rfl (by kernel_rfl) (by kernel_rfl) (by kernel_rfl) (fun _ _ _ h => h) (Or.inl ⟨by rfl, ?_⟩) (by assumption) rfl ?_
      rotate_left
      · intro w' hSw
        have g1 := below_cell hSw G1.out; have g2 := below_cell hSw G2.out; have g3 := below_cell hSw G3.out; have g4 := below_cell hSw G4.out; have c1 := below_cell hSw C1.out; have z1 := below_cell hSw Z1.out
        go_simp <;> with_reducible rfl
      simp only [List.setIfInBounds_toArray, List.set_cons_succ, List.set_cons_zero]
      refine wpAnyH_takeD (i := 2) (v := ?_) 27 rfl (by kernel_rfl) (by kernel_rfl) (by kernel_rfl) (fun _ _ _ h => h) (Or.inl ⟨by rfl, ?_⟩) (by assumption) rfl ?_
      rotate_left
      · intro w' hSw
        have g1 := below_cell hSw G1.out; have g2 := below_cell hSw G2.out; have g3 := below_cell hSw G3.out; have g4 := below_cell hSw G4.out; have c1 := below_cell hSw C1.out; have z1 := below_cell hSw Z1.out
        go_simp <;> with_reducible rfl
      simp only [List.setIfInBounds_toArray, List.set_cons_succ, List.set_cons_zero]
      refine wpAnyH_takeD (i := 3) (v := ?_) 28 rfl (by kernel_rfl) (by kernel_rfl) (by kernel_rfl) (fun _ _ _ h => h) (Or.inl ⟨by rfl, ?_⟩) (by assumption) rfl ?_
      rotate_left
      · intro w' hSw
        have g1 := below_cell hSw G1.out; have g2 := below_cell hSw G2.out; have g3 := below_cell hSw G3.out; have g4 := below_cell hSw G4.out; have c1 := below_cell hSw C1.out; have z1 := below_cell hSw Z1.out
        go_simp <;> with_reducible rfl
      simp only [List.setIfInBounds_toArray, List.set_cons_succ, List.set_cons_zero]
      refine wpAnyH_takeD (i := 4) (v := ?_) 29 rfl (by kernel_rfl) (by kernel_rfl) (by kernel_rfl) (fun _ _ _ h => h) (Or.inl ⟨by rfl, ?_⟩) (by assumption) rfl ?_
      rotate_left
      · intro w' hSw
        have g1 := below_cell hSw G1.out; have g2 := below_cell hSw G2.out; have g3 := below_cell hSw G3.out; have g4 := below_cell hSw G4.out; have c1 := below_cell hSw C1.out; have z1 := below_cell hSw Z1.out
        go_simp <;> with_reducible rfl
      simp only [List.setIfInBounds_toArray, List.set_cons_succ, List.set_cons_zero]
      refine wpAnyH_takeD (i := 5) (v := ?_) 30 rfl (by kernel_rfl) (by kernel_rfl) (by kernel_rfl) (fun _ _ _ h => h) (Or.inl ⟨by rfl, ?_⟩) (by assumption) rfl ?_
      rotate_left
      · intro w' hSw
        have g1 := below_cell hSw G1.out; have g2 := below_cell hSw G2.out; have g3 := below_cell hSw G3.out; have g4 := below_cell hSw G4.out; have c1 := below_cell hSw C1.out; have z1 := below_cell hSw Z1.out
        go_simp <;> with_reducible rfl
      simp only [List.setIfInBounds_toArray, List.set_cons_succ, List.set_cons_zero]
      refine wpAnyH_takeD (i := 6) (v := ?_) 31 rfl (by kernel_rfl) (by kernel_rfl) (by kernel_rfl) (fun _ _ _ h => h) (Or.inl ⟨by rfl, ?_⟩) (by assumption) rfl ?_
      rotate_left
      · intro w' hSw
        have g1 := below_cell hSw G1.out; have g2 := below_cell hSw G2.out; have g3 := below_cell hSw G3.out; have g4 := below_cell hSw G4.out; have c1 := below_cell hSw C1.out; have z1 := below_cell hSw Z1.out
        go_simp <;> with_reducible rfl
      simp only [List.setIfInBounds_toArray, List.set_cons_succ, List.set_cons_zero]
      refine wpAnyH_takeD (i := 7) (v := ?_) 32 rfl (by kernel_rfl) (by kernel_rfl) (by kernel_rfl) (fun _ _ _ h => h) (Or.inl ⟨by rfl, ?_⟩) (by assumption) rfl ?_
      rotate_left
      · intro w' hSw
        have g1 := below_cell hSw G1.out; have g2 := below_cell hSw G2.out; have g3 := below_cell hSw G3.out; have g4 := below_cell hSw G4.out; have c1 := below_cell hSw C1.out; have z1 := below_cell hSw Z1.out
        go_simp <;> with_reducible rfl
      simp only [List.setIfInBounds_toArray, List.set_cons_succ, List.set_cons_zero]
      refine wpAnyH_takeD (i := 8) (v := ?_) 33 rfl (by kernel_rfl) (by kernel_rfl) (by kernel_rfl) (fun _ _ _ h => h) (Or.inl ⟨by rfl, ?_⟩) (by assumption) rfl ?_
      rotate_left
      · intro w' hSw
        have g1 := below_cell hSw G1.out; have g2 := below_cell hSw G2.out; have g3 := below_cell hSw G3.out; have g4 := below_cell hSw G4.out; have c1 := below_cell hSw C1.out; have z1 := below_cell hSw Z1.out
        go_simp <;> with_reducible rfl
      simp only [List.setIfInBounds_toArray, List.set_cons_succ, List.set_cons_zero]
      refine wpAnyH_ready (rs := [9]) (by kernel_rfl) (by simp) ?_
      refine AllReadyH.cons (o := _) rfl (fun K hK => ?_) AllReadyH.nil
      go_simp
      refine hK.out _ _ (hHeld.alloc hHeld.size (.cells #[.int .i64 fk, .string fa, .string fb, .int .i64 ft] 76)) (fun hHeld2 => ?_)
      clear hK K
      refine wpAnyH_ready (rs := [10]) (by kernel_rfl) (by simp) ?_
      refine AllReadyH.cons (o := _) rfl (fun K hK => ?_) AllReadyH.nil
      have HSx := Lib.hid (Sl.new (s := 4) V 76 1 1 #[.int .i64 fk, .string fa, .string fb, .int .i64 ft] rfl (Nat.le_refl _) (by decide))
      refine stepFact (.tmp 25) (.tmp 34) rfl rfl (by rfl) (by rfl) (HO2.out.alloc (.cells #[.int .i64 fk, .string fa, .string fb, .int .i64 ft] 76)) HSx.out (by simp [Value.oneCell']) (N := k + 1) (by simp; omega) (by omega) hHeld2.size ?_
      intro A5 c5 w5 hap
      have HUn := Lib.hid (below_of_own hap.grown (HO2.out.alloc (.cells #[.int .i64 fk, .string fa, .string fb, .int .i64 ft] 76)) hHeld2 (Nat.le_refl _))
      have HOn := Lib.hid hap.own
      clear hap
      go_simp
      refine hK.out _ _ HUn.out (fun hHeld3 => ?_)
      clear hK K
      refine wpAnyH_takeD (i := 11) (v := ?_) 10 rfl (by kernel_rfl) (by kernel_rfl) (by kernel_rfl) (fun _ _ _ h => h) (Or.inl ⟨by rfl, ?_⟩) (by assumption) rfl ?_
      rotate_left
      · intro w' hSw
        have g1 := below_cell hSw G1.out; have g2 := below_cell hSw G2.out; have g3 := below_cell hSw G3.out; have g4 := below_cell hSw G4.out; have c1 := below_cell hSw C1.out; have z1 := below_cell hSw Z1.out
        go_simp <;> with_reducible rfl
      simp only [List.setIfInBounds_toArray, List.set_cons_succ, List.set_cons_zero]
      refine wpAnyH_done (by kernel_rfl) ?_ _
      clear hHeld hHeld2 hHeld3
      go_wp2
      exact ⟨⟨k + 1, by go_num, by omega, by rw [HT.out]; exact HOn.out, HUn.out⟩, by simp [intOf]; omega⟩
    · have HE := Lib.hid (show selF fs (l.take k) = selF fs l by rw [List.take_of_length_le (by omega)])
      rw [HE.out] at HO
      have HS := Lib.hid (Sl.of_own HO.out)
      have HBu := Lib.hid (HB0.out.trans (HU.out.mono HB0.out.size))
      replace HY := Lib.hid (HY.out.below HY.out.lt HU.out)
      clear HE HO HU HB0
      have z0 := HY.out.cell 0 _ rfl
      go_wp2_with fail
      refine (HNa.out _ wr HBu.out HS.out).mono ?_
      rintro e w2 ⟨hb2, A8, c8, rfl, hs8⟩
      have HB2 := Lib.hid (HBu.out.trans (hb2.mono HBu.out.size))
      have HS2 := Lib.hid (HS.out.below hb2)
      have HS8 := Lib.hid hs8
      clear hb2 hs8 z0 HNa HBu HS
      go_wp2_with fail
      refine (HSo.out _ _ w2 HS8.out HS2.out).mono ?_
      rintro e w3 ⟨hb3, hq⟩
      have HB3 := Lib.hid (HB2.out.trans (hb3.mono HB2.out.size))
      have HV3 := Lib.hid (HV.out.below HB3.out)
      clear hb3
      rcases hq with ⟨hq, rfl⟩ | ⟨M, B, vs, hq, rfl, _⟩
      · have HBd := Lib.hid (HR1.out (by unfold badN; rw [hq]; rfl))
        clear hq
        go_wp2
        go_ret2
        exact ⟨HB3.out, _, _, _, by rw [HBd.out]; rfl, fun s hs => by rw [HBd.out] at hs; cases hs; exact HV3.out⟩
      · have HBd := Lib.hid (HR2.out (by unfold badN; rw [hq]; rfl))
        clear hq
        go_wp2
        go_ret2
        exact ⟨HB3.out, _, _, _, by rw [HBd.out]; rfl, fun s hs => by rw [HBd.out] at hs; cases hs⟩
set_option maxRecDepth 100000 in
set_option maxHeartbeats 8000000 in
theorem rchosen_succ (m : Nat) (A : Option Addr) (c : Nat) (F : Option Addr) (d : Nat) (ps : List ByteArray) (fs : List Fa) (v : Value) (l : List Nat) (i0 : Nat) (w : World) (h : NetC w A ps.length c F fs.length d ps fs) (_hfew : fs.length ≤ 48) (hv : Sl w 1 v (natsV l)) (hl : l.length + (m + 1) ≤ 4) (hi : ∀ j ∈ l, j < fs.length)
    (HR : ∀ (v : Value) (l : List Nat) (i : Nat) (w' : World), Below w.heap.size w w' → Sl w' 1 v (natsV l) → l.length + m ≤ 4 → (∀ j ∈ l, j < fs.length) → Calls Tryz.prog 77 #[.agg #[.slice A ps.length c, .slice F fs.length d], v, .int .i64 i, .int .i64 m] w' (ChosP (chF ps fs m l i) w')) :
    Calls Tryz.prog 77 #[.agg #[.slice A ps.length c, .slice F fs.length d], v, .int .i64 i0, .int .i64 ((m + 1 : Nat) : Int)] w (ChosP (chF ps fs (m + 1) l i0) w) := by
  obtain ⟨Al, cl, rfl, hl1, hl2, hcell⟩ := nats_at hv
  obtain ⟨_, _, _, h1, _, h2⟩ := h.many
  have HB0 := Lib.hid (below_alloc' w (.cells #[.slice A ps.length c, .slice F fs.length d] 25))
  have HY := Lib.hid (Cel.new w 25 #[.slice A ps.length c, .slice F fs.length d])
  have HV := Lib.hid hv
  have HIx := Lib.hid hi
  have HRe := Lib.hid HR
  obtain ⟨M, hM⟩ : ∃ M : Int, ((m + 1 : Nat) : Int) = M := ⟨_, rfl⟩
  rw [hM]
  have hMw : IntKind.i64.wrap (M - 1) = (m : Int) := by rw [IntWalk.i64_in _ (by omega)]; omega
  have hM0 : (M == 0) = false := beq_eq_false_iff_ne.2 (by omega)
  have HCi := Lib.hid (fun w' (hw : Below w.heap.size w w') => (copyInts_any (.slice Al l.length cl) (l.map Int.ofNat) w' (by rw [← nats_ints]; exact hv.below hw) (by rw [List.length_map]; omega)).mono (R' := fun e w'' => Below w'.heap.size w' w'' ∧ ∃ A c, e = .returned (.slice A l.length c) ∧ w''.ownsRow w'.heap.size 3 1 (.slice A l.length c) l.length (natsV l)) (fun e w'' ⟨v', h1, h2, h3⟩ => by
    rw [← nats_ints, List.length_map] at h3
    obtain ⟨A, c, rfl, h3⟩ := own_shape h3
    exact ⟨h2, A, c, h1, h3⟩))
  clear h hv hcell hi HR hM
  go_enter Tryz.func77, Tryz.ntmps77
  go_upto_region 10 with fail
  clear hM0
  generalize w.alloc (.cells #[.slice A ps.length c, .slice F fs.length d] 25) = W at *
  have HU0 := Lib.hid (Below.refl W.heap.size W)
  go_loopw [14] (fun ti wr => ∃ i : Nat, ti = .int .i64 i ∧ Hid (chF ps fs (m + 1) l i = chF ps fs (m + 1) l i0) ∧ Hid (Below W.heap.size W wr)) (fun ti _ => fs.length - (intOf ti).toNat)
  case atStart => exact ⟨i0, rfl, rfl, HU0.out⟩
  case round =>
    clear HU0
    obtain ⟨i, rfl, HQ, HU⟩ := hrel
    have z0 := (HY.out.below HY.out.lt HU.out).cell 0 _ rfl
    have z1 := (HY.out.below HY.out.lt HU.out).cell 1 _ rfl
    by_cases hlt : i < fs.length
    · have hii : (i : Int) < (fs.length : Int) := by omega
      have hi0 : (0 : Int) ≤ (i : Int) := by omega
      have hwi : IntKind.i64.wrap ((i : Int) + 1) = ((i + 1 : Nat) : Int) := by rw [IntWalk.i64_in _ (by omega)]; omega
      have HBu := Lib.hid (HB0.out.trans (HU.out.mono HB0.out.size))
      have HFx := Lib.hid (show ∀ j ∈ l ++ [i], j < fs.length from fun j hj => by
        rcases List.mem_append.1 hj with q | q
        · exact HIx.out j q
        · rw [List.mem_singleton] at q; omega)
      have HSo := Lib.hid (fun s (e : chF ps fs m (l ++ [i]) (i + 1) = some s) => (chF_some hlt e).symm.trans HQ.out)
      have HSn := Lib.hid (fun (e : chF ps fs m (l ++ [i]) (i + 1) = none) => (chF_next hlt e).symm.trans HQ.out)
      go_upto_region 12 with fail
      refine wp_region_held_drew (S := fun w' => Below wr.heap.size wr w') (by kernel_rfl) (below_drew (Below.refl _ _)) (fun hHeld => ?_)
      refine wpAnyH_takeD (i := 0) (v := ?_) 57 rfl (by kernel_rfl) (by kernel_rfl) (by kernel_rfl) (fun _ _ _ h => h) (Or.inl ⟨by rfl, ?_⟩) (by assumption) rfl ?_
      rotate_left
      · intro w' hSw
        have z0 := below_cell hSw z0; have z1 := below_cell hSw z1
        go_simp <;> with_reducible rfl
      simp only [List.setIfInBounds_toArray, List.set_cons_succ, List.set_cons_zero]
      refine wpAnyH_takeD (i := 1) (v := ?_) 58 rfl (by kernel_rfl) (by kernel_rfl) (by kernel_rfl) (fun _ _ _ h => h) (Or.inl ⟨by rfl, ?_⟩) (by assumption) rfl ?_
      rotate_left
      · intro w' hSw
        have z0 := below_cell hSw z0; have z1 := below_cell hSw z1
        go_simp <;> with_reducible rfl
      simp only [List.setIfInBounds_toArray, List.set_cons_succ, List.set_cons_zero]
      refine wpAnyH_takeD (i := 3) (v := ?_) 60 rfl (by kernel_rfl) (by kernel_rfl) (by kernel_rfl) (fun _ _ _ h => h) (Or.inl ⟨by rfl, ?_⟩) (by assumption) rfl ?_
      rotate_left
      · intro w' hSw
        have z0 := below_cell hSw z0; have z1 := below_cell hSw z1
        go_simp <;> with_reducible rfl
      simp only [List.setIfInBounds_toArray, List.set_cons_succ, List.set_cons_zero]
      refine wpAnyH_takeD (i := 6) (v := ?_) 63 rfl (by kernel_rfl) (by kernel_rfl) (by kernel_rfl) (fun _ _ _ h => h) (Or.inl ⟨by rfl, ?_⟩) (by assumption) rfl ?_
      rotate_left
      · intro w' hSw
        have z0 := below_cell hSw z0; have z1 := below_cell hSw z1
        go_simp <;> with_reducible rfl
      simp only [List.setIfInBounds_toArray, List.set_cons_succ, List.set_cons_zero]
      refine wpAnyH_takeD (i := 7) (v := ?_) 64 rfl (by kernel_rfl) (by kernel_rfl) (by kernel_rfl) (fun _ _ _ h => h) (Or.inl ⟨by rfl, ?_⟩) (by assumption) rfl ?_
      rotate_left
      · intro w' hSw
        have z0 := below_cell hSw z0; have z1 := below_cell hSw z1
        go_simp <;> with_reducible rfl
      simp only [List.setIfInBounds_toArray, List.set_cons_succ, List.set_cons_zero]
      refine wpAnyH_takeD (i := 8) (v := ?_) 65 rfl (by kernel_rfl) (by kernel_rfl) (by kernel_rfl) (fun _ _ _ h => h) (Or.inl ⟨by rfl, ?_⟩) (by assumption) rfl ?_
      rotate_left
      · intro w' hSw
        have z0 := below_cell hSw z0; have z1 := below_cell hSw z1
        go_simp <;> with_reducible rfl
      simp only [List.setIfInBounds_toArray, List.set_cons_succ, List.set_cons_zero]
      refine wpAnyH_takeD (i := 9) (v := ?_) 66 rfl (by kernel_rfl) (by kernel_rfl) (by kernel_rfl) (fun _ _ _ h => h) (Or.inl ⟨by rfl, ?_⟩) (by assumption) rfl ?_
      rotate_left
      · intro w' hSw
        have z0 := below_cell hSw z0; have z1 := below_cell hSw z1
        go_simp <;> with_reducible rfl
      simp only [List.setIfInBounds_toArray, List.set_cons_succ, List.set_cons_zero]
      have HH0 := Lib.hid hHeld
      refine wpAnyH_ready (rs := [2, 4]) (by kernel_rfl) (by simp) ?_
      refine AllReadyH.cons (o := _) rfl (fun K hK => ?_) (AllReadyH.cons (o := _) rfl (fun K hK => ?_) AllReadyH.nil)
      · go_simp
        go_at_call 23
        refine (HCi.out _ (HBu.out.trans (HH0.out.mono HBu.out.size))).mono ?_
        rintro e w5 ⟨hb5, A5, c5, rfl, ho5⟩
        have HV5 := Lib.hid (HH0.out.trans (hb5.mono HH0.out.size))
        have HO5 := Lib.hid ho5
        refine hK.out _ _ HV5.out (fun hHeld5 => ?_)
        clear hK K
        refine wpAnyH_ready (rs := [4]) (by kernel_rfl) (by simp) ?_
        refine AllReadyH.cons (o := _) rfl (fun K hK => ?_) AllReadyH.nil
        go_simp
        have HV6 := Lib.hid (HV5.out.alloc HV5.out.size (.cells #[.int .i64 (i : Int)] 3))
        have HSx := Lib.hid (Sl.new (s := 1) w5 3 1 1 #[.int .i64 (i : Int)] rfl (Nat.le_refl _) (by decide))
        refine hK.out _ _ HV6.out (fun hHeld6 => ?_)
        clear hK K
        refine wpAnyH_ready (rs := [5]) (by kernel_rfl) (by simp) ?_
        refine AllReadyH.cons (o := _) rfl (fun K hK => ?_) AllReadyH.nil
        refine stepInt (.tmp 59) (.tmp 61) rfl rfl (by rfl) (by rfl) (HO5.out.alloc (.cells #[.int .i64 (i : Int)] 3)) HSx.out (by simp [Value.oneCell']) (N := l.length + 1) (by simp) (by omega) (Nat.le_trans hb5.size (by simp)) ?_
        intro A9 c9 w9 hap
        have HV9 := Lib.hid (show Below wr.heap.size wr w9 from below_of_own hap.grown (HO5.out.alloc (.cells #[.int .i64 (i : Int)] 3)) HV6.out (by simp))
        have HS9 := Lib.hid (show Sl w9 1 (.slice A9 (l.length + 1) c9) (natsV (l ++ [i])) from by have := Sl.of_own hap.own; rw [natsV_append]; exact this)
        clear hap
        go_simp
        refine hK.out _ _ HV9.out (fun hHeld8 => ?_)
        clear hK K
        refine wpAnyH_ready (rs := [10]) (by kernel_rfl) (by simp) ?_
        refine AllReadyH.cons (o := _) rfl (fun K hK => ?_) AllReadyH.nil
        go_simp
        go_at_call 77
        refine (HRe.out _ (l ++ [i]) (i + 1) _ (HBu.out.trans (HV9.out.mono HBu.out.size)) HS9.out (by rw [List.length_append, List.length_singleton]; omega) HFx.out).mono ?_
        rintro e w10 ⟨hb10, Ar, nr, cr, rfl, hr⟩
        have HV10 := Lib.hid (HV9.out.trans (hb10.mono HV9.out.size))
        have HRs := Lib.hid hr
        clear hb10 hr
        refine hK.out _ _ HV10.out (fun hHeld9 => ?_)
        clear hK K
        refine wpAnyH_takeD (i := 11) (v := ?_) 56 rfl (by kernel_rfl) (by kernel_rfl) (by kernel_rfl) (fun _ _ _ h => h) (Or.inl ⟨by rfl, ?_⟩) (by assumption) rfl ?_
        rotate_left
        · intro w' hSw
          have z0 := below_cell hSw z0; have z1 := below_cell hSw z1
          go_simp <;> with_reducible rfl
        simp only [List.setIfInBounds_toArray, List.set_cons_succ, List.set_cons_zero]
        refine wpAnyH_takeD (i := 12) (v := ?_) 68 rfl (by kernel_rfl) (by kernel_rfl) (by kernel_rfl) (fun _ _ _ h => h) (Or.inl ⟨by rfl, ?_⟩) (by assumption) rfl ?_
        rotate_left
        · intro w' hSw
          have z0 := below_cell hSw z0; have z1 := below_cell hSw z1
          go_simp <;> with_reducible rfl
        simp only [List.setIfInBounds_toArray, List.set_cons_succ, List.set_cons_zero]
        refine wpAnyH_takeD (i := 13) (v := ?_) 69 rfl (by kernel_rfl) (by kernel_rfl) (by kernel_rfl) (fun _ _ _ h => h) (Or.inl ⟨by rfl, ?_⟩) (by assumption) rfl ?_
        rotate_left
        · intro w' hSw
          have z0 := below_cell hSw z0; have z1 := below_cell hSw z1
          go_simp <;> with_reducible rfl
        simp only [List.setIfInBounds_toArray, List.set_cons_succ, List.set_cons_zero]
        refine wpAnyH_takeD (i := 14) (v := ?_) 15 rfl (by kernel_rfl) (by kernel_rfl) (by kernel_rfl) (fun _ _ _ h => h) (Or.inl ⟨by rfl, ?_⟩) (by assumption) rfl ?_
        rotate_left
        · intro w' hSw
          have z0 := below_cell hSw z0; have z1 := below_cell hSw z1
          go_simp <;> with_reducible rfl
        simp only [List.setIfInBounds_toArray, List.set_cons_succ, List.set_cons_zero]
        refine wpAnyH_takeD (i := 15) (v := ?_) 16 rfl (by kernel_rfl) (by kernel_rfl) (by kernel_rfl) (fun _ _ _ h => h) (Or.inl ⟨by rfl, ?_⟩) (by assumption) rfl ?_
        rotate_left
        · intro w' hSw
          have z0 := below_cell hSw z0; have z1 := below_cell hSw z1
          go_simp <;> with_reducible rfl
        simp only [List.setIfInBounds_toArray, List.set_cons_succ, List.set_cons_zero]
        refine wpAnyH_done (by kernel_rfl) ?_ _
        have HU2 := Lib.hid (HU.out.trans (HV10.out.mono HU.out.size))
        have HB2 := Lib.hid (HBu.out.trans (HV10.out.mono HBu.out.size))
        clear hHeld hHeld8 hHeld9 z0 z1 HU
        cases hq : chF ps fs m (l ++ [i]) (i + 1) with
        | some s =>
          rw [hq] at HRs
          have HE := Lib.hid (HSo.out s hq)
          have HRv := Lib.hid (HRs.out s rfl)
          clear hq
          simp only [Option.isSome_some]
          go_wp2
          go_ret2
          exact ⟨HB2.out, _, _, _, by rw [← HE.out]; rfl, fun s' hs' => by rw [← HE.out] at hs'; cases hs'; exact HRv.out⟩
        | none =>
          have HE := Lib.hid (HSn.out hq)
          clear hq
          simp only [Option.isSome_none]
          go_wp2
          exact ⟨⟨i + 1, by go_num, HE.out, HU2.out⟩, by simp [intOf]; omega⟩
      · go_simp
        have HV6 := Lib.hid (HH0.out.alloc HH0.out.size (.cells #[.int .i64 (i : Int)] 3))
        have HSl := Lib.hid (Sl.new (s := 1) wr.drew 3 1 1 #[.int .i64 (i : Int)] rfl (Nat.le_refl _) (by decide))
        refine hK.out _ _ HV6.out (fun hHeld6 => ?_)
        clear hK K
        refine wpAnyH_ready (rs := [2]) (by kernel_rfl) (by simp) ?_
        refine AllReadyH.cons (o := _) rfl (fun K hK => ?_) AllReadyH.nil
        go_simp
        go_at_call 23
        refine (HCi.out _ (HBu.out.trans (HV6.out.mono HBu.out.size))).mono ?_
        rintro e w5 ⟨hb5, A5, c5, rfl, ho5⟩
        have HV5 := Lib.hid (HV6.out.trans (hb5.mono HV6.out.size))
        have HO5 := Lib.hid ho5
        have HSx := Lib.hid (HSl.out.below hb5)
        refine hK.out _ _ HV5.out (fun hHeld5 => ?_)
        clear hK K
        refine wpAnyH_ready (rs := [5]) (by kernel_rfl) (by simp) ?_
        refine AllReadyH.cons (o := _) rfl (fun K hK => ?_) AllReadyH.nil
        refine stepInt (.tmp 59) (.tmp 61) rfl rfl (by rfl) (by rfl) HO5.out HSx.out (by simp [Value.oneCell']) (N := l.length + 1) (by simp) (by omega) hb5.size ?_
        intro A9 c9 w9 hap
        have HV9 := Lib.hid (show Below wr.heap.size wr w9 from below_of_own hap.grown HO5.out HV5.out (by simp))
        have HS9 := Lib.hid (show Sl w9 1 (.slice A9 (l.length + 1) c9) (natsV (l ++ [i])) from by have := Sl.of_own hap.own; rw [natsV_append]; exact this)
        clear hap
        go_simp
        refine hK.out _ _ HV9.out (fun hHeld8 => ?_)
        clear hK K
        refine wpAnyH_ready (rs := [10]) (by kernel_rfl) (by simp) ?_
        refine AllReadyH.cons (o := _) rfl (fun K hK => ?_) AllReadyH.nil
        go_simp
        go_at_call 77
        refine (HRe.out _ (l ++ [i]) (i + 1) _ (HBu.out.trans (HV9.out.mono HBu.out.size)) HS9.out (by rw [List.length_append, List.length_singleton]; omega) HFx.out).mono ?_
        rintro e w10 ⟨hb10, Ar, nr, cr, rfl, hr⟩
        have HV10 := Lib.hid (HV9.out.trans (hb10.mono HV9.out.size))
        have HRs := Lib.hid hr
        clear hb10 hr
        refine hK.out _ _ HV10.out (fun hHeld9 => ?_)
        clear hK K
        refine wpAnyH_takeD (i := 11) (v := ?_) 56 rfl (by kernel_rfl) (by kernel_rfl) (by kernel_rfl) (fun _ _ _ h => h) (Or.inl ⟨by rfl, ?_⟩) (by assumption) rfl ?_
        rotate_left
        · intro w' hSw
          have z0 := below_cell hSw z0; have z1 := below_cell hSw z1
          go_simp <;> with_reducible rfl
        simp only [List.setIfInBounds_toArray, List.set_cons_succ, List.set_cons_zero]
        refine wpAnyH_takeD (i := 12) (v := ?_) 68 rfl (by kernel_rfl) (by kernel_rfl) (by kernel_rfl) (fun _ _ _ h => h) (Or.inl ⟨by rfl, ?_⟩) (by assumption) rfl ?_
        rotate_left
        · intro w' hSw
          have z0 := below_cell hSw z0; have z1 := below_cell hSw z1
          go_simp <;> with_reducible rfl
        simp only [List.setIfInBounds_toArray, List.set_cons_succ, List.set_cons_zero]
        refine wpAnyH_takeD (i := 13) (v := ?_) 69 rfl (by kernel_rfl) (by kernel_rfl) (by kernel_rfl) (fun _ _ _ h => h) (Or.inl ⟨by rfl, ?_⟩) (by assumption) rfl ?_
        rotate_left
        · intro w' hSw
          have z0 := below_cell hSw z0; have z1 := below_cell hSw z1
          go_simp <;> with_reducible rfl
        simp only [List.setIfInBounds_toArray, List.set_cons_succ, List.set_cons_zero]
        refine wpAnyH_takeD (i := 14) (v := ?_) 15 rfl (by kernel_rfl) (by kernel_rfl) (by kernel_rfl) (fun _ _ _ h => h) (Or.inl ⟨by rfl, ?_⟩) (by assumption) rfl ?_
        rotate_left
        · intro w' hSw
          have z0 := below_cell hSw z0; have z1 := below_cell hSw z1
          go_simp <;> with_reducible rfl
        simp only [List.setIfInBounds_toArray, List.set_cons_succ, List.set_cons_zero]
        refine wpAnyH_takeD (i := 15) (v := ?_) 16 rfl (by kernel_rfl) (by kernel_rfl) (by kernel_rfl) (fun _ _ _ h => h) (Or.inl ⟨by rfl, ?_⟩) (by assumption) rfl ?_
        rotate_left
        · intro w' hSw
          have z0 := below_cell hSw z0; have z1 := below_cell hSw z1
          go_simp <;> with_reducible rfl
        simp only [List.setIfInBounds_toArray, List.set_cons_succ, List.set_cons_zero]
        refine wpAnyH_done (by kernel_rfl) ?_ _
        have HU2 := Lib.hid (HU.out.trans (HV10.out.mono HU.out.size))
        have HB2 := Lib.hid (HBu.out.trans (HV10.out.mono HBu.out.size))
        clear hHeld hHeld8 hHeld9 z0 z1 HU
        cases hq : chF ps fs m (l ++ [i]) (i + 1) with
        | some s =>
          rw [hq] at HRs
          have HE := Lib.hid (HSo.out s hq)
          have HRv := Lib.hid (HRs.out s rfl)
          clear hq
          simp only [Option.isSome_some]
          go_wp2
          go_ret2
          exact ⟨HB2.out, _, _, _, by rw [← HE.out]; rfl, fun s' hs' => by rw [← HE.out] at hs'; cases hs'; exact HRv.out⟩
        | none =>
          have HE := Lib.hid (HSn.out hq)
          clear hq
          simp only [Option.isSome_none]
          go_wp2
          exact ⟨⟨i + 1, by go_num, HE.out, HU2.out⟩, by simp [intOf]; omega⟩
    · have HE := Lib.hid (show chF ps fs (m + 1) l i0 = none by rw [← HQ.out]; exact chF_end hlt)
      have HBu := Lib.hid (HB0.out.trans (HU.out.mono HB0.out.size))
      go_wp2
      go_ret2
      exact ⟨HBu.out, _, _, _, by rw [HE.out]; rfl, fun s hs => by rw [HE.out] at hs; cases hs⟩
theorem rchosen_any (ps : List ByteArray) (fs : List Fa) (hp : ps.length ≤ 24) (hfew : fs.length ≤ 48) (hf : AllAbout ps fs) (A : Option Addr) (c : Nat) (F : Option Addr) (d : Nat) : ∀ (m : Nat) (v : Value) (l : List Nat) (i : Nat) (w : World), NetC w A ps.length c F fs.length d ps fs → Sl w 1 v (natsV l) → l.length + m ≤ 4 → (∀ j ∈ l, j < fs.length) →
        Calls Tryz.prog 77 #[.agg #[.slice A ps.length c, .slice F fs.length d], v, .int .i64 i, .int .i64 m] w (ChosP (chF ps fs m l i) w) := by
      intro m
      induction m with
      | zero =>
        intro v l i w h hv hl hi
        exact rchosen_zero A c F d ps fs v l i w h hp hf hv (by omega) hi _ (fun q => if_pos q) (fun q => if_neg (by rw [q]; decide))
      | succ m ih =>
        intro v l i w h hv hl hi
        exact rchosen_succ m A c F d ps fs v l i w h hfew hv hl hi (fun v' l' i' w' hb hv' hl' hi' => ih v' l' i' w' (h.below hb) hv' hl' hi')
    
end
end Go.Proofs.YtdmcopjbckelmaaGreatDoor
