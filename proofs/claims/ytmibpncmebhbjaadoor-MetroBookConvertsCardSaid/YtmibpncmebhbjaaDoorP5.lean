/- The exact factor along ladders. Factor, Convert, Whole. Convert and Whole. Whole. The statement's own helpers: bridges; ratio. -/
import Derived.Test.YtmibpncmebhbjaaDoorP4
import Derived.Test.YtmibpncmebhbjaaDoorP2
namespace Go.Proofs.YtmibpncmebhbjaaDoor
section
open Go Go.RowKit Go.Shelf

section
variable {a : Act} {w : World} {ops : Array Oper} {rest : List Oper} {o : Oper} {Q : Exit → Act → World → Prop}
theorem appInt (s x : Operand) (hgd : o.guard = none) (ho : o.op = .call { callee := .builtin .append, args := #[s, x], argTypes := #[75, 75] })
    {base n : Nat} {v vx : Value} {xs news : List Value} (hs : a.eval s = v) (hx : a.eval x = vx) (hown : w.ownsRow base 3 1 v n xs) (hr : Sl w 1 vx news) (h1 : ∀ u ∈ news, u.oneCell' = true)
    {N : Nat} (hN : n + news.length = N) (hb : N ≤ 17592186044416) (hbase : base ≤ w.heap.size)
    (h : ∀ A c w', Appended base 3 1 v xs news w w' A N c → wpList Tryd.prog ops Q rest (a.put o.dst (.slice A N c)) w') : wpList Tryd.prog ops Q (o :: rest) a w := by
  obtain ⟨i, hi, hz0, hz1, hz2⟩ := info_parts infoInt
  exact wpList_app w hgd s x 75 ho base 3 i (.int .i64 0) 1 8 Tryd.underlying75 hi hz0 hz1 hz2 rfl (by decide) v n xs hs hown vx news hx hr h1 N (by omega) (by omega) (by decide) hbase h
end

theorem below_drew {a b : World} {n : Nat} (h : Below n a b) : Below n a b.drew := ⟨h.os, h.tape, h.output, h.size, h.block⟩
theorem PV.nil (w : World) (lim : Nat) : PV w (.agg #[.slice none 0 0, .slice none 0 0]) 1 lim := ⟨[], [], ⟨_, _, rfl, Sl.nilv w 1, Sl.nilv w 1⟩, Red.nil, by simp, by simp⟩
theorem Cel.set2 {W : World} {B : Nat} {t : TypeId} {a b : Value} (h : Cel W B t #[a, b]) (x y : Value) : Cel ((W.setCell ⟨B, 0, none⟩ x).setCell ⟨B, 1, none⟩ y) B t #[x, y] := (h.setAt 0 x).setAt 1 y
theorem PV.setBox {w : World} {b : Nat} {t : TypeId} {v : Value} {q : Rat} {lim : Nat} {A1 A2 : Option Addr} {n1 d1 n2 d2 : Nat} (h : PV w v q lim) (hb : Cel w b t #[.slice A1 n1 d1, .slice A2 n2 d2]) (x y : Value) : PV ((w.setCell ⟨b, 0, none⟩ x).setCell ⟨b, 1, none⟩ y) v q lim := by
  have hne : ∀ (l : List Nat) A n c, ∀ u ∈ u64s l, u ≠ Value.slice A n c := by
    intro l A n c u hu e
    obtain ⟨m, _, rfl⟩ := List.mem_map.1 hu
    cases e
  obtain ⟨U, D, ⟨s1, s2, e, h1, h2⟩, h3⟩ := h
  have c0 := hb.cell 0 _ rfl
  have c1 := (hb.setAt 0 x).cell 1 (.slice A2 n2 d2) rfl
  exact ⟨U, D, ⟨s1, s2, e, (h1.setCell c0 (hne _ _ _ _) x).setCell c1 (hne _ _ _ _) y, (h2.setCell c0 (hne _ _ _ _) x).setCell c1 (hne _ _ _ _) y⟩, h3⟩
theorem grpV_one (p : List Nat) : ∀ u ∈ grpV p, u.oneCell' = true := by
  intro u hu; obtain ⟨n, _, rfl⟩ := List.mem_map.1 hu; rfl
theorem grpV_length (p : List Nat) : (grpV p).length = p.length := by simp [grpV]
/-- The indices of names; none: one of them is no ladder's. -/
def idxs (ls : List La) : List ByteArray → Option (List Nat)
  | [] => some []
  | nm :: l => match findL nm ls 0 with
    | none => none
    | some i => (idxs ls l).map (i :: ·)
theorem idxs_snoc (ls : List La) (l : List ByteArray) (nm : ByteArray) : idxs ls (l ++ [nm]) = (idxs ls l).bind fun p => (findL nm ls 0).map fun i => p ++ [i] := by
  induction l with
  | nil => simp only [List.nil_append, idxs]; cases findL nm ls 0 <;> rfl
  | cons x l ih =>
    simp only [List.cons_append, idxs, ih]
    cases findL x ls 0 with
    | none => rfl
    | some i => cases idxs ls l with
      | none => rfl
      | some p => cases findL nm ls 0 <;> rfl
theorem idxs_append_none {ls : List La} {l : List ByteArray} (t : List ByteArray) (h : idxs ls l = none) : idxs ls (l ++ t) = none := by
  induction l with
  | nil => simp [idxs] at h
  | cons x l ih =>
    simp only [List.cons_append, idxs] at h ⊢
    cases hf : findL x ls 0 with
    | none => rfl
    | some i =>
      rw [hf] at h
      simp only [Option.map_eq_none_iff] at h
      simp [ih h]
theorem idxs_length {ls : List La} {l : List ByteArray} {p : List Nat} (h : idxs ls l = some p) : p.length = l.length := by
  induction l generalizing p with
  | nil => simp [idxs] at h; subst h; rfl
  | cons x l ih =>
    simp only [idxs] at h
    split at h
    · cases h
    · obtain ⟨q, hq, rfl⟩ := Option.map_eq_some_iff.1 h
      simp [ih hq]
theorem idxs_lt {ls : List La} {l : List ByteArray} {p : List Nat} (h : idxs ls l = some p) : ∀ i ∈ p, i < ls.length := by
  induction l generalizing p with
  | nil => simp [idxs] at h; subst h; simp
  | cons x l ih =>
    simp only [idxs] at h
    split at h
    · cases h
    · rename_i k hk
      obtain ⟨q, hq, rfl⟩ := Option.map_eq_some_iff.1 h
      intro i hi
      rcases List.mem_cons.1 hi with rfl | hi
      · have := findL_lt hk; omega
      · exact ih hq i hi
/-- Do all neighbours belong together up to place k? -/
def joined (grp : List Nat) (p : List Nat) (k : Nat) : Prop := ∀ j, j < k → grp.getD (p.getD j 0) 0 = grp.getD (p.getD (j + 1) 0) 0
def joinedB (grp : List Nat) : List Nat → Bool
  | a :: b :: l => decide (grp.getD a 0 = grp.getD b 0) && joinedB grp (b :: l)
  | _ => true
/-- The factor along the first k steps. -/
def along (fac : List Rat) (p : List Nat) : Nat → Rat
  | 0 => 1
  | k + 1 => along fac p k * (fac.getD (p.getD k 0) 0 * (fac.getD (p.getD (k + 1) 0) 0)⁻¹)
theorem joinedB_iff (grp p : List Nat) : joinedB grp p = true ↔ joined grp p (p.length - 1) := by
  induction p with
  | nil => simp [joinedB, joined]
  | cons a p ih =>
    cases p with
    | nil => simp [joinedB, joined]
    | cons b l =>
      simp only [joinedB, Bool.and_eq_true, decide_eq_true_eq, ih, List.length_cons, Nat.add_sub_cancel, joined]
      constructor
      · rintro ⟨h1, h2⟩ j hj
        cases j with
        | zero => simpa using h1
        | succ j => simpa using h2 j (by omega)
      · intro h
        exact ⟨by simpa using h 0 (by omega), fun j hj => by simpa using h (j + 1) (by omega)⟩
def alongE (st : St) (names : List ByteArray) : Int := match idxs st.ls names with
  | none => 4
  | some p => if joinedB st.grp p then 0 else 13
def alongQ (st : St) (names : List ByteArray) : Rat := match idxs st.ls names with
  | none => 1
  | some p => if joinedB st.grp p then along st.fac p (p.length - 1) else 1
def namesV (l : List ByteArray) : List Value := l.map Value.string

set_option maxRecDepth 100000 in
set_option maxHeartbeats 2000000 in
set_option pp.deepTerms true in
set_option pp.maxSteps 100000 in
theorem along_any (Bk bm : Nat) (lv gv fv v : Value) (st : St) (names : List ByteArray) (w : World) (hb : BookV w Bk bm lv gv fv st) (hg : Good st) (hv : Sl w 1 v (namesV names)) (hnl : names.length ≤ 1024) :
    Calls Tryd.prog 103 #[.pointer (some ⟨Bk, 0, none⟩), v] w fun e w' => ∃ r, e = .returned (.tuple #[r, .int .i64 (alongE st names)]) ∧ Below w.heap.size w w' ∧ PV w' r (alongQ st names) 8796093022208 := by
  obtain ⟨A, c, rfl, hlc, hcm, hcell⟩ := hv.open1
  simp only [namesV, List.length_map] at hlc hcell ⊢
  have HN : Hid (∀ wr k (h : k < names.length), Below w.heap.size w wr → ∃ ad, A = some ad ∧ wr.cell? (ad.add k) = some (.string names[k])) := by
    intro wr k h hB
    obtain ⟨ad, e, h1⟩ := hcell k _ (by rw [List.getElem?_map, List.getElem?_eq_getElem h]; rfl)
    exact ⟨ad, e, below_cell hB h1⟩
  have HB := Lib.hid hb
  have HG := Lib.hid hg
  clear hcell hb hg
  go_enter Tryd.func103, Tryd.ntmps103
  go_wp2
  have Y := Cel.new w 121 #[.slice none 0 0, .slice none 0 0]
  have hw0 : Below w.heap.size w (w.alloc (.cells #[.slice none 0 0, .slice none 0 0] 121)) := below_alloc' _ _
  go_loopw [6, 15] (fun t6 t15 wr => ∃ (k : Nat) (p : List Nat), k ≤ names.length ∧ t15 = .int .i64 k ∧ idxs st.ls (names.take k) = some p ∧ wr.ownsRow (w.heap.size + 1) 3 1 t6 p.length (grpV p) ∧ Cel wr w.heap.size 121 #[.slice none 0 0, .slice none 0 0] ∧ Below w.heap.size w wr)
    (fun _ t15 _ => names.length - (intOf t15).toNat)
  case atStart => exact ⟨0, [], by omega, rfl, rfl, World.ownsRow_nil _ _ _ _, Y, hw0⟩
  case round =>
    obtain ⟨k, p, hk, rfl, hp, hown, y, hB⟩ := hrel
    clear Y hw0
    have HP := Lib.hid hp
    clear hp
    by_cases hlt : k < names.length
    · obtain ⟨ad, rfl, e1⟩ := HN.out wr k hlt hB
      have hbk := HB.out.below hB
      have hc := index_any Bk bm lv gv fv st.ls names[k] wr hbk.blk hbk.place
      clear hbk
      cases hf : findL names[k] st.ls 0 with
      | none =>
        have hi0 : idxE st.ls names[k] = 4 := by simp [idxE, hf, needF]
        rw [hi0] at hc
        have HE := Lib.hid (show alongE st names = 4 ∧ alongQ st names = 1 by
          have : idxs st.ls names = none := by
            rw [← List.take_append_drop (k + 1) names]
            refine idxs_append_none _ ?_
            rw [List.take_succ_eq_append_getElem hlt, idxs_snoc, HP.out, hf]; rfl
          simp [alongE, alongQ, this])
        obtain ⟨q0, q1, z0, z1⟩ := box2 y
        clear hf hi0
        go_wp2_with (go_at_call 101; refine hc.mono ?_; rintro e w1 ⟨rfl, rfl⟩)
        exact bodyPost_ret (v := .tuple #[.agg #[.slice none 0 0, .slice none 0 0], .int .i64 4]) (by simp [results, Tryd.results103, go_sem, q0, q1]) rfl
          ⟨_, by rw [HE.out.1], (hB.setCell (p := ⟨w.heap.size, 0, none⟩) (by simp) _).setCell (p := ⟨w.heap.size, 1, none⟩) (by simp) _, by rw [HE.out.2]; exact PV.nil _ _⟩
      | some i =>
        have hi0 : idxE st.ls names[k] = 0 := by simp [idxE, hf, needF]
        have hii : idxI st.ls names[k] = i := by simp [idxI, hf]
        rw [hi0, hii] at hc
        have HS := Lib.hid (show idxs st.ls (names.take (k + 1)) = some (p ++ [i]) by
          rw [List.take_succ_eq_append_getElem hlt, idxs_snoc, HP.out, hf]; rfl)
        have hpl : p.length = k := by have := idxs_length HP.out; simp at this; omega
        clear hf hi0 hii
        have hsz := hB.size
        have hys := y.lt
        go_wp2_with (first | (go_at_call 101; refine hc.mono ?_; rintro e w1 ⟨rfl, rfl⟩) | (at_builtin; refine appInt _ _ rfl rfl rfl rfl (hown.alloc _) (Sl.new (s := 1) wr 3 1 1 _ rfl (by omega) (by omega)) (by simp [Value.oneCell']) rfl (by simp; omega) (by simp; omega) ?_; intro A1 c1 w1 hap))
        have hap1 := hap.own
        have hg1 := hap.grown
        have hb1 : Below w.heap.size w w1 := (hB.alloc hsz (.cells #[.int .i64 (i : Int)] 3)).grown hg1 (by simp; omega) (fun k hk => by have := ((hown.alloc (.cells #[.int .i64 (i : Int)] 3)).lt k hk).1; omega)
        have y1 : Cel w1 w.heap.size 121 #[.slice none 0 0, .slice none 0 0] := (y.alloc _).kept hg1 (fun e => by have := ((hown.alloc (.cells #[.int .i64 (i : Int)] 3)).lt _ e.symm).1; omega)
        clear hap hg1
        go_wp2
        go_roundw
        case rel => exact ⟨k + 1, p ++ [i], hlt, by go_num, HS.out, by simpa [grpV, hpl] using hap1, y1, hb1⟩
        case measure => simp [intOf]; omega
    · have hkn : k = names.length := by omega
      have HP' : Hid (idxs st.ls names = some p) := by have := HP.out; rwa [List.take_of_length_le (by omega)] at this
      have hpl : p.length = names.length := idxs_length HP'.out
      have HLt : Hid (∀ k, k < names.length → p.getD k 0 < st.ls.length) := by
        intro k hk
        have := idxs_lt HP'.out (p[k]'(by omega)) (List.getElem_mem _)
        simpa [List.getD, show k < p.length by omega] using this
      clear HP
      subst hkn
      obtain ⟨A6, c6, rfl, hown⟩ := own_shape hown
      rw [hpl] at hown ⊢
      have hc6 : names.length ≤ c6 ∧ (c6 : Int) ≤ 9223372036854775807 := by
        obtain ⟨A', c', e, h1, h2, _⟩ := own_slice hown
        cases e; exact ⟨h1, h2⟩
      obtain ⟨hc61, hc62⟩ := hc6
      have hrow := Sl.of_own hown
      have hys := y.lt
      obtain ⟨Bp, hBp⟩ : ∃ Bp, wr.heap.size = Bp := ⟨_, rfl⟩
      have yp := Cel.new wr 121 #[.slice none 0 0, .slice none 0 0]
      have hBn := below_alloc' wr (.cells #[.slice none 0 0, .slice none 0 0] 121)
      go_wp2
      clear hown
      rw [hBp] at yp
      obtain ⟨Ag, cg, hgv, hgc, hgm, hgcell⟩ := HB.out.grp.open1
      subst hgv
      obtain ⟨A6', c6', e6, _, _, hrcell⟩ := hrow.open1
      rw [grpV_length, hpl] at e6
      cases e6
      rw [grpV_length, HG.out.grp] at hgc
      have HR : Hid (∀ w2 k (h : k < names.length), Below wr.heap.size wr w2 → ∃ ad, A6 = some ad ∧ w2.cell? (ad.add k) = some (.int .i64 (p.getD k 0 : Nat))) := by
        intro w2 k h hb
        rw [← hpl] at h
        obtain ⟨ad, e, h1⟩ := hrcell k (.int .i64 (p.getD k 0 : Nat)) (by simp [grpV, h])
        exact ⟨ad, e, below_cell hb h1⟩
      have HGr : Hid (∀ w2 k (h : k < st.ls.length), Below w.heap.size w w2 → ∃ ad, Ag = some ad ∧ w2.cell? (ad.add k) = some (.int .i64 (st.grp.getD k 0 : Nat))) := by
        intro w2 k h hb
        obtain ⟨ad, e, h1⟩ := hgcell k (.int .i64 (st.grp.getD k 0 : Nat)) (by rw [← HG.out.grp] at h; simp [grpV, h])
        exact ⟨ad, e, below_cell hb h1⟩
      have hblk := HB.out.blk
      rw [grpV_length, HG.out.grp] at hblk
      have HBk := Lib.hid hblk
      clear hblk
      have HF := Lib.hid HB.out.fac
      have HL := Lib.hid (fun k => St.lim_le (st := st) (by rw [HG.out.grp]; exact HG.out.few) k)
      have hfl := HG.out.fac
      have HY := Lib.hid y
      have HBw := Lib.hid hB
      have HPL := Lib.hid hpl
      clear hgcell hrcell hrow hv y hB hc61 hc62 hpl
      generalize wr = V at *
      go_loopw [37] (fun t37 w2 => ∃ (k : Nat) (A1 : Option Addr) (n1 c1 : Nat) (A2 : Option Addr) (n2 c2 : Nat), t37 = .int .i64 k ∧ k ≤ names.length - 1 ∧ joined st.grp p k ∧ Cel w2 Bp 121 #[.slice A1 n1 c1, .slice A2 n2 c2] ∧ PV w2 (.agg #[.slice A1 n1 c1, .slice A2 n2 c2]) (along st.fac p k) (k * 8589934592) ∧ Below V.heap.size V w2)
        (fun t37 _ => names.length - (intOf t37).toNat)
      case atStart => exact ⟨0, none, 0, 0, none, 0, 0, rfl, by omega, fun j h => by omega, yp, PV.nil _ _, hBn⟩
      case round =>
        obtain ⟨k, A1, n1, d1, A2, n2, d2, rfl, hk, hj, y2, hpv, hB2⟩ := hrel
        clear yp hBn
        have HJ := Lib.hid hj
        have HV := Lib.hid hpv
        clear hj hpv
        have hBw2 := below_then HBw.out hB2
        by_cases hlt2 : k < names.length - 1
        · obtain ⟨ar, rfl, e1⟩ := HR.out wr k (by omega) hB2
          obtain ⟨ar', h', e2⟩ := HR.out wr (k + 1) (by omega) hB2
          cases h'
          have hi := HLt.out k (by omega)
          have hj := HLt.out (k + 1) (by omega)
          obtain ⟨i, hii⟩ : ∃ i, p.getD k 0 = i := ⟨_, rfl⟩
          obtain ⟨j, hjj⟩ : ∃ j, p.getD (k + 1) 0 = j := ⟨_, rfl⟩
          rw [hii] at e1 hi
          rw [hjj] at e2 hj
          have Hk := Lib.hid hii
          have Hk1 := Lib.hid hjj
          clear hii hjj
          obtain ⟨ag, rfl, e3⟩ := HGr.out wr i hi hBw2
          obtain ⟨ag', h', e4⟩ := HGr.out wr j hj hBw2
          cases h'
          have e5 := (HBk.out.below HBk.out.lt hBw2).cell 2 (.slice (some ag) st.ls.length cg) rfl
          obtain ⟨gi, hgi⟩ : ∃ gi, st.grp.getD i 0 = gi := ⟨_, rfl⟩
          obtain ⟨gj, hgj⟩ : ∃ gj, st.grp.getD j 0 = gj := ⟨_, rfl⟩
          rw [hgi] at e3
          rw [hgj] at e4
          have Hgi := Lib.hid hgi
          have Hgj := Lib.hid hgj
          clear hgi hgj
          have hk1 : k < names.length := by omega
          have hk2 : k + 1 < names.length := by omega
          obtain ⟨K, hK⟩ : ∃ K, k + 1 = K := ⟨_, rfl⟩
          have hk3 : IntKind.i64.wrap ((k : Int) + 1) = (K : Int) := by rw [← hK, Int.natCast_add]; exact IntWalk.i64_in _ (by omega)
          rw [hK] at e2 hk2 Hk1
          have HKK := Lib.hid hK
          clear hK
          by_cases hgg : gi = gj
          · have b1 : ((gi : Int) != (gj : Int)) = false := by simp [hgg]
            have HGG := Lib.hid hgg
            clear hgg
            go_wp2
            go_quiet (fail)
            go_wp2
            have hbt := between_any Bk bm lv (.slice (some ag) st.ls.length cg) fv st.fac st.lim i j
            clear e5
            have hW3 : ∃ W3, wr.drewN nq = W3 := ⟨_, rfl⟩
            have e1' : (wr.drewN nq).cell? (ar.add k) = some (.int .i64 (i : Nat)) := e1
            have e2' : (wr.drewN nq).cell? (ar.add K) = some (.int .i64 (j : Nat)) := e2
            have y3 : Cel (wr.drewN nq) Bp 121 #[.slice A1 n1 d1, .slice A2 n2 d2] := y2
            have hB3 : Below V.heap.size V (wr.drewN nq) := below_drewN hB2 nq
            have hBw3 : Below w.heap.size w (wr.drewN nq) := below_drewN hBw2 nq
            have HV3 : Hid (PV (wr.drewN nq) (.agg #[.slice A1 n1 d1, .slice A2 n2 d2]) (along st.fac p k) (k * 8589934592)) := by
              obtain ⟨U, D, ⟨s1, s2, e, h1, h2⟩, h3⟩ := HV.out
              exact ⟨U, D, ⟨s1, s2, e, h1.drewN nq, h2.drewN nq⟩, h3⟩
            clear e1 e2 e3 e4 y2 hB2 hBw2 HV
            obtain ⟨W3, hW3⟩ := hW3
            rw [hW3] at e1' e2' y3 hB3 hBw3 HV3 ⊢
            clear hW3
            have h3a := y3.cell 0 (.slice A1 n1 d1) rfl
            have h3b := y3.cell 1 (.slice A2 n2 d2) rfl
            have h3c := y3.frozen 0
            have h3d := y3.frozen 1
            have HY3 := Lib.hid y3
            have HK3 : Hid (∀ w', Below W3.heap.size W3 w' → w'.cell? (ar.add k) = some (.int .i64 (i : Nat)) ∧ w'.cell? (ar.add K) = some (.int .i64 (j : Nat)) ∧ w'.cell? ⟨Bp, 0, none⟩ = some (.slice A1 n1 d1) ∧ w'.cell? ⟨Bp, 1, none⟩ = some (.slice A2 n2 d2) ∧ w'.frozen? ⟨Bp, 0, none⟩ = false ∧ w'.frozen? ⟨Bp, 1, none⟩ = false) := by
              intro w' hb
              have y4 := HY3.out.below HY3.out.lt hb
              exact ⟨below_cell hb e1', below_cell hb e2', y4.cell 0 _ rfl, y4.cell 1 _ rfl, y4.frozen 0, y4.frozen 1⟩
            have HH3 := Lib.hid hB3
            have HHw3 := Lib.hid hBw3
            clear y3 hB3 hBw3
            have hbt := fun h1 h2 => hbt W3.drew (HBk.out.below HBk.out.lt (below_drew HHw3.out)) (HF.out.below (below_drew HHw3.out)) (by omega) (by omega) h1 h2
            have HBT := Lib.hid (hbt (HL.out i) (HL.out j))
            clear hbt
            have hfi : st.fac[i]'(by omega) = st.fac.getD i 0 := by simp [List.getD, show i < st.fac.length by omega]
            have hfj : st.fac[j]'(by omega) = st.fac.getD j 0 := by simp [List.getD, show j < st.fac.length by omega]
            rw [hfi, hfj] at HBT
            have HLk := Lib.hid (show k * 8589934592 + (st.lim i + st.lim j) ≤ 17592186044415 by have := HL.out i; have := HL.out j; omega)
            clear hfi hfj
            have h4a : W3.drew.cell? ⟨Bp, 0, none⟩ = some (.slice A1 n1 d1) := h3a
            have h4b : W3.drew.cell? ⟨Bp, 1, none⟩ = some (.slice A2 n2 d2) := h3b
            have h4c : W3.drew.cell? (ar.add k) = some (.int .i64 (i : Nat)) := e1'
            have h4d : W3.drew.cell? (ar.add K) = some (.int .i64 (j : Nat)) := e2'
            go_region_with (first
              | (go_at_call 124; refine HBT.out.mono ?_; rintro e w4 ⟨r1, rfl, hb1', hp1⟩; have hbl1 : Below W3.heap.size W3 w4 := below_undrew hb1'; obtain ⟨X1, m1, i1, X2, m2, i2, rfl⟩ := hp1.shape; have HP1 := Lib.hid hp1; clear hp1; obtain ⟨g0, g1, g2, g3, g4, g5⟩ := HK3.out _ hbl1)
              | (go_at_call 104; refine (times_pv _ _ _ _ _ _ _ (HV3.out.below hbl1) HP1.out HLk.out).mono ?_; rintro e w5 ⟨r2, rfl, hb2, hp2⟩; have hbl2 : Below W3.heap.size W3 w5 := below_then hbl1 hb2; obtain ⟨Z1, m3, i3, Z2, m4, i4, rfl⟩ := hp2.shape; have HP2 := Lib.hid hp2; clear hp2; obtain ⟨f0, f1, f2, f3, f4, f5⟩ := HK3.out _ hbl2))
            go_wp2
            all_goals (
              go_roundw
              case rel =>
                have y5 := HY3.out.below HY3.out.lt hbl2
                have hq : along st.fac p (k + 1) = along st.fac p k * (st.fac.getD i 0 * (st.fac.getD j 0)⁻¹) := by
                  show along st.fac p k * _ = _
                  rw [Hk.out, HKK.out, Hk1.out]
                refine ⟨k + 1, Z1, m3, i3, Z2, m4, i4, by rw [HKK.out], by omega, ?_, y5.set2 _ _, ?_, ?_⟩
                · intro j' hj'
                  by_cases e : j' = k
                  · subst e; rw [Hk.out, HKK.out, Hk1.out, Hgi.out, Hgj.out, HGG.out]
                  · exact HJ.out j' (by omega)
                · rw [hq]; exact (HP2.out.setBox y5 _ _).mono (by have := HL.out i; have := HL.out j; omega)
                · have hV := below_then HH3.out hbl2
                  exact (hV.setCell (p := ⟨Bp, 0, none⟩) (by simp [← hBp]) _).setCell (p := ⟨Bp, 1, none⟩) (by simp [← hBp]) _
              case measure => have := HKK.out; simp [intOf]; omega)
          · have b1 : ((gi : Int) != (gj : Int)) = true := by rw [bne_iff_ne]; omega
            have HE := Lib.hid (show alongE st names = 13 ∧ alongQ st names = 1 by
              have : joinedB st.grp p = false := by
                cases hjb : joinedB st.grp p with
                | false => rfl
                | true =>
                  have h1 := (joinedB_iff st.grp p).1 hjb k (by have := HPL.out; omega)
                  rw [Hk.out, HKK.out, Hk1.out, Hgi.out, Hgj.out] at h1
                  exact absurd h1 hgg
              simp [alongE, alongQ, HP'.out, this])
            clear hgg
            have yr := (HY.out.below HY.out.lt hB2)
            obtain ⟨q0, q1, z0, z1⟩ := box2 yr
            go_wp2
            go_quiet (fail)
            have q0' : (wr.drewN nq).cell? ⟨w.heap.size, 0, none⟩ = some (.slice none 0 0) := q0
            have q1' : (wr.drewN nq).cell? ⟨w.heap.size, 1, none⟩ = some (.slice none 0 0) := q1
            go_wp2
            have r0 := (yr.set2 (.slice none 0 0) (.slice none 0 0)).cell 0 (.slice none 0 0) rfl
            have r1 := (yr.set2 (.slice none 0 0) (.slice none 0 0)).cell 1 (.slice none 0 0) rfl
            exact bodyPost_ret (v := .tuple #[.agg #[.slice none 0 0, .slice none 0 0], .int .i64 13]) (by simp [results, Tryd.results103, go_sem, q0', q1']) rfl
              ⟨_, by rw [HE.out.1], ((below_drewN hBw2 nq).setCell (p := ⟨w.heap.size, 0, none⟩) (by simp) _).setCell (p := ⟨w.heap.size, 1, none⟩) (by simp) _, by rw [HE.out.2]; exact PV.nil _ _⟩
        · have HE := Lib.hid (show alongE st names = 0 ∧ alongQ st names = along st.fac p k by
            have hk' : p.length - 1 = k := by have := HPL.out; omega
            have : joinedB st.grp p = true := (joinedB_iff st.grp p).2 (by rw [hk']; exact HJ.out)
            simp [alongE, alongQ, HP'.out, this, hk'])
          have yr := (HY.out.below HY.out.lt hB2)
          obtain ⟨q0, q1, z0, z1⟩ := box2 yr
          have s0 := y2.cell 0 (.slice A1 n1 d1) rfl
          have s1 := y2.cell 1 (.slice A2 n2 d2) rfl
          have dd : decide ((k : Int) < (names.length : Int) - 1) = false := decide_eq_false (by omega)
          go_wp2
          exact bodyPost_ret (v := .tuple #[.agg #[.slice A1 n1 d1, .slice A2 n2 d2], .int .i64 0]) (by simp [results, Tryd.results103, go_sem, q0, q1]) rfl
            ⟨_, by rw [HE.out.1], (hBw2.setCell (p := ⟨w.heap.size, 0, none⟩) (by simp) _).setCell (p := ⟨w.heap.size, 1, none⟩) (by simp) _, by rw [HE.out.2]; exact PV.mono (lim' := 8796093022208) (HV.out.setBox yr _ _) (by omega)⟩
end

section
open Go Go.RowKit Go.Shelf
attribute [local go_sem] rrV

theorem pratio_pv (v : Value) (q : Rat) (l : Nat) (w : World) (hv : PV w v q l) (hl : l ≤ 17592186044415) :
    Calls Tryd.prog 87 #[v, .bool false] w fun e w' => e = .returned (.tuple #[.agg #[.int .i64 (fit q).n, .int .i64 (fit q).d], .int .i64 (fit q).e]) ∧ Below w.heap.size w w' := by
  obtain ⟨U, D, h1, h2, h3, h4⟩ := hv
  have := pratio_any v U D false w h1 h2.onesU h2.onesD (by omega) (by omega)
  rw [h2.val] at this
  exact this

set_option maxRecDepth 100000 in
theorem none_no (Bk bm : Nat) (lv gv fv : Value) (w : World) (hc : Cel w Bk 114 #[lv, .map (some bm), gv, fv]) :
    Calls Tryd.prog 100 #[.pointer (some ⟨Bk, 0, none⟩)] w fun e w' => e = .returned (.bool false) ∧ w = w' := by
  have c1 := hc.cell 1 (.map (some bm)) rfl
  have hq : ∀ w, (binOp .eql 111 (.map (some bm)) (.map none)).run Tryd.prog w = .ok (.bool false) w := fun w => run_eql_map_nil w _ _ _ (some bm) Tryd.underlying111
  go_enter Tryd.func100, Tryd.ntmps100
  go_wp2
  go_ret
  exact ⟨rfl, rfl⟩

def factorF (st : St) (a b : ByteArray) : RR := if alongE st [a, b] = 0 then fit (alongQ st [a, b]) else ⟨0, 0, alongE st [a, b]⟩

set_option maxRecDepth 100000 in
set_option maxHeartbeats 1000000 in
theorem factor_any (Bk bm : Nat) (lv gv fv : Value) (st : St) (a b : ByteArray) (w : World) (hb : BookV w Bk bm lv gv fv st) (hg : Good st) :
    Calls Tryd.prog 41 #[.pointer (some ⟨Bk, 0, none⟩), .string a, .string b] w fun e w' => e = .returned (rrV (factorF st a b)) ∧ Below w.heap.size w w' := by
  have Y := Cel.new w 23 #[.int .i64 0, .int .i64 0]
  have hw0 : Below w.heap.size w (w.alloc (.cells #[.int .i64 0, .int .i64 0] 23)) := below_alloc' _ _
  obtain ⟨W, hW⟩ : ∃ W, w.alloc (.cells #[.int .i64 0, .int .i64 0] 23) = W := ⟨_, rfl⟩
  rw [hW] at Y hw0
  have hw1 : Below w.heap.size w (W.alloc (.cells #[.string a, .string b] 9)) := hw0.alloc hw0.size _
  have hnn := none_no Bk bm lv gv fv W (hb.below hw0).blk
  have hal := along_any Bk bm lv gv fv (.slice (some ⟨W.heap.size, 0, none⟩) 2 2) st [a, b] (W.alloc (.cells #[.string a, .string b] 9)) (hb.below hw1) hg
    ((Cel.new W 9 #[.string a, .string b]).sl (s := 1) rfl rfl (Nat.le_refl _) (by decide)) (by simp)
  have HAL := Lib.hid hal
  have HY := Lib.hid Y
  have HW1 := Lib.hid hw1
  have HNN := Lib.hid hnn
  have HF := Lib.hid (show factorF st a b = if alongE st [a, b] = 0 then fit (alongQ st [a, b]) else ⟨0, 0, alongE st [a, b]⟩ from rfl)
  clear hal Y hw1 hw0 hnn hb hg
  generalize alongE st [a, b] = q0 at *
  generalize alongQ st [a, b] = q1 at *
  generalize factorF st a b = q at *
  go_enter Tryd.func41, Tryd.ntmps41
  by_cases h0 : q0 = 0
  · have d0 : (q0 == 0) = true := beq_iff_eq.2 h0
    rw [if_pos h0] at HF
    subst h0
    go_wp2_with (first | (go_at_call 100; refine HNN.out.mono ?_; rintro e w1 ⟨rfl, rfl⟩) | (go_at_call 103; refine HAL.out.mono ?_; rintro e w2 ⟨r, rfl, hb2, hp2⟩; obtain ⟨X1, m1, i1, X2, m2, i2, rfl⟩ := hp2.shape; have hsz := hb2.size; have HP2 := Lib.hid hp2; clear hp2) | (go_at_call 87; refine (pratio_pv _ q1 _ _ (HP2.out.below (below_alloc' _ _)) (by decide)).mono ?_; rintro e w3 ⟨rfl, hb3⟩; have hb4 := below_then HW1.out (below_then hb2 (below_then (below_alloc' _ _) hb3)); have y3 := ((((HY.out.alloc _).below (HY.out.alloc _).lt hb2).alloc _).below ((((HY.out.alloc _).below (HY.out.alloc _).lt hb2).alloc _)).lt hb3); obtain ⟨z0, z1, z2, z3⟩ := box2i y3))
    exact bodyPost_ret (v := .tuple #[.agg #[.int .i64 (fit q1).n, .int .i64 (fit q1).d], .int .i64 (fit q1).e]) (by simp [results, Tryd.results41, go_sem, z0, z1]) rfl
      ⟨by rw [HF.out] <;> rfl, (hb4.setCell (p := ⟨w.heap.size, 0, none⟩) (by simp) _).setCell (p := ⟨w.heap.size, 1, none⟩) (by simp) _⟩
  · have d0 : (q0 == 0) = false := beq_eq_false_iff_ne.2 h0
    rw [if_neg h0] at HF
    go_wp2_with (first | (go_at_call 100; refine HNN.out.mono ?_; rintro e w1 ⟨rfl, rfl⟩) | (go_at_call 103; refine HAL.out.mono ?_; rintro e w2 ⟨r, rfl, hb2, hp2⟩; obtain ⟨X1, m1, i1, X2, m2, i2, rfl⟩ := hp2.shape; have hsz := hb2.size; have HP2 := Lib.hid hp2; clear hp2; have hb4 := (below_then HW1.out hb2).alloc (below_then HW1.out hb2).size (.cells #[.slice X1 m1 i1, .slice X2 m2 i2] 121); have y3 := (((HY.out.alloc (.cells #[.string a, .string b] 9)).below (HY.out.alloc _).lt hb2).alloc (.cells #[.slice X1 m1 i1, .slice X2 m2 i2] 121)); obtain ⟨z0, z1, z2, z3⟩ := box2i y3))
    exact bodyPost_ret (v := .tuple #[.agg #[.int .i64 0, .int .i64 0], .int .i64 q0]) (by simp [results, Tryd.results41, go_sem, z0, z1]) rfl
      ⟨by rw [HF.out] <;> rfl, (hb4.setCell (p := ⟨w.heap.size, 0, none⟩) (by simp) _).setCell (p := ⟨w.heap.size, 1, none⟩) (by simp) _⟩
end

section
open Go Go.RowKit Go.Shelf
attribute [local go_sem] rrV

theorem Pr.drew {w : World} {v : Value} {U D : List Nat} (h : Pr w v U D) : Pr w.drew v U D := by
  obtain ⟨s1, s2, e, h1, h2⟩ := h; exact ⟨s1, s2, e, h1.drew, h2.drew⟩
theorem val_single (m : Nat) : val [m] [] = (m : Rat) := by simp [val, prodN]; grind
def convE (st : St) (a : ByteArray) (n : Int) (b : ByteArray) : Int := firstF [idxE st.ls a, idxE st.ls b, needF (rangeB n) 8]
def convF (st : St) (a : ByteArray) (n : Int) (b : ByteArray) : RR :=
  if convE st a n b = 0 then
    if alongE st [a, b] = 0 then if n = 0 then ⟨0, 1, 0⟩ else fit (alongQ st [a, b] * (n : Rat)) else ⟨0, 0, alongE st [a, b]⟩
  else ⟨0, 0, convE st a n b⟩
theorem convE_range {st : St} {a b : ByteArray} {n : Int} (h : convE st a n b = 0) : 0 ≤ n ∧ n ≤ 1099511627776 := by
  unfold convE firstF at h
  split at h
  · unfold firstF at h
    split at h
    · simp only [firstF] at h
      by_cases h2 : rangeB n = true
      · simpa [rangeB] using h2
      · simp [needF, h2] at h
    · exact absurd h (by assumption)
  · exact absurd h (by assumption)

set_option maxRecDepth 100000 in
set_option maxHeartbeats 1000000 in
theorem convert_any (Bk bm : Nat) (lv gv fv : Value) (st : St) (a b : ByteArray) (n : Int) (w : World) (hb : BookV w Bk bm lv gv fv st) (hg : Good st) (hz : Zw w) :
    Calls Tryd.prog 37 #[.pointer (some ⟨Bk, 0, none⟩), .agg #[.string a, .int .i64 n], .string b] w fun e w' => e = .returned (rrV (convF st a n b)) ∧ Below w.heap.size w w' := by
  have Y0 := (Cel.new w 51 #[.string a, .int .i64 n]).alloc (.cells #[.int .i64 0, .int .i64 0] 23)
  have Y := Cel.new (w.alloc (.cells #[.string a, .int .i64 n] 51)) 23 #[.int .i64 0, .int .i64 0]
  simp only [World.size_alloc] at Y
  have hw0 : Below w.heap.size w ((w.alloc (.cells #[.string a, .int .i64 n] 51)).alloc (.cells #[.int .i64 0, .int .i64 0] 23)) := (below_alloc' _ _).alloc (by simp) _
  obtain ⟨W, hW⟩ : ∃ W, (w.alloc (.cells #[.string a, .int .i64 n] 51)).alloc (.cells #[.int .i64 0, .int .i64 0] 23) = W := ⟨_, rfl⟩
  rw [hW] at Y0 Y hw0
  have HBV := Lib.hid (hb.below hw0)
  have HG := Lib.hid hg
  have HW0 := Lib.hid hw0
  have HY0 := Lib.hid Y0
  have HY := Lib.hid Y
  have HZ := Lib.hid (hz.below hw0)
  have hI1 := index_any Bk bm lv gv fv st.ls a W HBV.out.blk HBV.out.place
  have hI2 := index_any Bk bm lv gv fv st.ls b W HBV.out.blk HBV.out.place
  have hN := none_no Bk bm lv gv fv W HBV.out.blk
  have HI1 := Lib.hid hI1
  have HI2 := Lib.hid hI2
  have HN := Lib.hid hN
  have a0 := Y0.cell 0 (.string a) rfl
  have a1 := Y0.cell 1 (.int .i64 n) rfl
  have b0 := (Y0.alloc (.cells #[.int .i64 (idxE st.ls a), .int .i64 (idxE st.ls b), .int .i64 (needF true 8)] 24)).cell 0 (.string a) rfl
  have HC := Lib.hid (show convF st a n b = if convE st a n b = 0 then if alongE st [a, b] = 0 then if n = 0 then ⟨0, 1, 0⟩ else fit (alongQ st [a, b] * (n : Rat)) else ⟨0, 0, alongE st [a, b]⟩ else ⟨0, 0, convE st a n b⟩ from rfl)
  have HR := Lib.hid (fun h => convE_range (st := st) (a := a) (b := b) (n := n) h)
  clear hI1 hI2 hN hb hg hw0 Y0 Y hz
  have H3 : Hid (∀ w : World, Calls Tryd.prog 102 #[.slice (some ⟨w.heap.size, 0, none⟩) 3 3] (w.alloc (.cells #[.int .i64 (idxE st.ls a), .int .i64 (idxE st.ls b), .int .i64 (needF (rangeB n) 8)] 24)) fun e w' => e = .returned (.int .i64 (convE st a n b)) ∧ w.alloc (.cells #[.int .i64 (idxE st.ls a), .int .i64 (idxE st.ls b), .int .i64 (needF (rangeB n) 8)] 24) = w') := fun w => first3_any _ _ _ _ w rfl
  generalize convE st a n b = ce at *
  generalize convF st a n b = q at *
  generalize idxE st.ls a = ea at *
  generalize idxE st.ls b = eb at *
  generalize idxI st.ls a = ia at *
  generalize idxI st.ls b = ib at *
  go_enter Tryd.func37, Tryd.ntmps37
  by_cases hc : ce = 0
  · obtain ⟨hn0, hn1⟩ := HR.out hc
    have d0 : decide (0 ≤ n) = true := decide_eq_true hn0
    have d1 : decide (n ≤ 1099511627776) = true := decide_eq_true hn1
    have hr : rangeB n = true := by simp [rangeB, hn0, hn1]
    rw [hr, hc] at H3
    rw [if_pos hc] at HC
    have dc : (ce == 0) = true := beq_iff_eq.2 hc
    subst hc
    clear HR
    have HAL : Hid (∀ o : Obj, Calls Tryd.prog 103 #[.pointer (some ⟨Bk, 0, none⟩), .slice (some ⟨W.heap.size + 1, 0, none⟩) 2 2] ((W.alloc o).alloc (.cells #[.string a, .string b] 9)) fun e w' => ∃ r, e = .returned (.tuple #[r, .int .i64 (alongE st [a, b])]) ∧ Below ((W.alloc o).alloc (.cells #[.string a, .string b] 9)).heap.size ((W.alloc o).alloc (.cells #[.string a, .string b] 9)) w' ∧ PV w' r (alongQ st [a, b]) 8796093022208) := by
      intro o
      have h := below_alloc' W o
      have := along_any Bk bm lv gv fv (.slice (some ⟨(W.alloc o).heap.size, 0, none⟩) 2 2) st [a, b] ((W.alloc o).alloc (.cells #[.string a, .string b] 9)) (HBV.out.below (h.alloc h.size _)) HG.out
        ((Cel.new (W.alloc o) 9 #[.string a, .string b]).sl (s := 1) rfl rfl (Nat.le_refl _) (by decide)) (by simp)
      rwa [World.size_alloc W o] at this
    generalize alongE st [a, b] = q0 at *
    generalize alongQ st [a, b] = q1 at *
    by_cases h0 : q0 = 0
    · rw [if_pos h0] at HC
      have dq : (q0 == 0) = true := beq_iff_eq.2 h0
      subst h0
      by_cases hnz : n = 0
      · rw [if_pos hnz] at HC
        have dn : (n == 0) = true := beq_iff_eq.2 hnz
        clear hnz
        go_wp2_with (first | (go_at_call 100; refine HN.out.mono ?_; rintro e w1 ⟨rfl, rfl⟩) | (go_at_call_of 101 (Value.string a); refine HI1.out.mono ?_; rintro e w1 ⟨rfl, rfl⟩) | (go_at_call_of 101 (Value.string b); refine HI2.out.mono ?_; rintro e w1 ⟨rfl, rfl⟩) | (go_at_call 97; refine (need_any _ 8 _).mono ?_; rintro e w1 ⟨rfl, rfl⟩) | (go_at_call 102; refine (H3.out _).mono ?_; rintro e w1 ⟨rfl, rfl⟩) | (go_at_call 103; refine (HAL.out _).mono ?_; rintro e w2 ⟨r, rfl, hb2, hp2⟩; obtain ⟨X1, m1, i1, X2, m2, i2, rfl⟩ := hp2.shape; have hsz := hb2.size; have HP2 := Lib.hid (hp2.below (below_alloc' _ (.cells #[.slice X1 m1 i1, .slice X2 m2 i2] 121))); clear hp2; have hWV := (below_then ((below_alloc' W (.cells #[.int .i64 ea, .int .i64 eb, .int .i64 (needF true 8)] 24)).alloc (below_alloc' _ _).size (.cells #[.string a, .string b] 9)) hb2); have hWX := hWV.alloc hWV.size (.cells #[.slice X1 m1 i1, .slice X2 m2 i2] 121); have hb4 := below_then HW0.out hWX; have y3 := HY.out.below HY.out.lt hWX; have y0 := HY0.out.below HY0.out.lt hWX; have yp := Cel.new w2 121 #[.slice X1 m1 i1, .slice X2 m2 i2]; have p0 := yp.cell 0 (.slice X1 m1 i1) rfl; have p1 := yp.cell 1 (.slice X2 m2 i2) rfl; have t1 := y0.cell 1 (.int .i64 n) rfl; have hzz := HZ.out.below hWX; obtain ⟨g0, g1⟩ := hzz; obtain ⟨z0, z1, z2, z3⟩ := box2i y3))
        exact bodyPost_ret (v := .tuple #[.agg #[.int .i64 0, .int .i64 1], .int .i64 0]) (by simp [results, Tryd.results37, go_sem, z0, z1]) rfl
          ⟨by rw [HC.out] <;> rfl, (hb4.setCell (p := ⟨w.heap.size + 1, 0, none⟩) (by simp) _).setCell (p := ⟨w.heap.size + 1, 1, none⟩) (by simp) _⟩
      · rw [if_neg hnz] at HC
        have dn : (n == 0) = false := beq_eq_false_iff_ne.2 hnz
        go_wp2_with (first | (go_at_call 100; refine HN.out.mono ?_; rintro e w1 ⟨rfl, rfl⟩) | (go_at_call_of 101 (Value.string a); refine HI1.out.mono ?_; rintro e w1 ⟨rfl, rfl⟩) | (go_at_call_of 101 (Value.string b); refine HI2.out.mono ?_; rintro e w1 ⟨rfl, rfl⟩) | (go_at_call 97; refine (need_any _ 8 _).mono ?_; rintro e w1 ⟨rfl, rfl⟩) | (go_at_call 102; refine (H3.out _).mono ?_; rintro e w1 ⟨rfl, rfl⟩) | (go_at_call 103; refine (HAL.out _).mono ?_; rintro e w2 ⟨r, rfl, hb2, hp2⟩; obtain ⟨X1, m1, i1, X2, m2, i2, rfl⟩ := hp2.shape; have hsz := hb2.size; have HP2 := Lib.hid (hp2.below (below_alloc' _ (.cells #[.slice X1 m1 i1, .slice X2 m2 i2] 121))); clear hp2; have hWV := (below_then ((below_alloc' W (.cells #[.int .i64 ea, .int .i64 eb, .int .i64 (needF true 8)] 24)).alloc (below_alloc' _ _).size (.cells #[.string a, .string b] 9)) hb2); have hWX := hWV.alloc hWV.size (.cells #[.slice X1 m1 i1, .slice X2 m2 i2] 121); have hb4 := below_then HW0.out hWX; have y3 := HY.out.below HY.out.lt hWX; have y0 := HY0.out.below HY0.out.lt hWX; have yp := Cel.new w2 121 #[.slice X1 m1 i1, .slice X2 m2 i2]; have p0 := yp.cell 0 (.slice X1 m1 i1) rfl; have p1 := yp.cell 1 (.slice X2 m2 i2) rfl; have t1 := y0.cell 1 (.int .i64 n) rfl; have hzz := HZ.out.below hWX; obtain ⟨g0, g1⟩ := hzz; obtain ⟨z0, z1, z2, z3⟩ := box2i y3))
        clear g0 g1 HZ HBV HG HI1 HI2 HN H3 HAL
        obtain ⟨V, hV⟩ : ∃ V, w2.alloc (.cells #[.slice X1 m1 i1, .slice X2 m2 i2] 121) = V := ⟨_, rfl⟩
        rw [hV] at HP2 hWX hb4 y3 y0 yp p0 p1 t1 z0 z1 z2 z3 ⊢
        have hVs : V.heap.size = w2.heap.size + 1 := by rw [← hV]; simp
        clear hV
        obtain ⟨U, D, hpr, hred, hlu, hld⟩ := HP2.out
        obtain ⟨m, hm⟩ : ∃ m : Nat, n = (m : Int) := ⟨n.toNat, by omega⟩
        subst hm
        have hm1 : 1 ≤ m := by omega
        have hm2 : m ≤ 1099511627776 := by omega
        have hO : Ones [m] := Ones.cons hm1 (by omega) Ones.nil
        have HT := Lib.hid (fun (v : Value) (w' : World) (h : Below V.heap.size V w') (hs : Sl w' 1 v (u64s [m])) => times_any (.agg #[.slice X1 m1 i1, .slice X2 m2 i2]) (.agg #[v, .slice none 0 0]) U D [m] [] w' (hpr.below h) ⟨_, _, rfl, hs, Sl.nilv _ _⟩ hred.onesU hred.onesD hO Ones.nil (by simp; omega) (by simp; omega))
        have HU := Lib.hid (And.intro hlu hld)
        have HVal := Lib.hid (show val U D * val [m] [] = q1 * ((m : Int) : Rat) by rw [hred.val, val_single]; rfl)
        have HK : Hid (∀ w', Below V.heap.size V w' → w'.cell? ⟨w2.heap.size, 0, none⟩ = some (.slice X1 m1 i1) ∧ w'.cell? ⟨w2.heap.size, 1, none⟩ = some (.slice X2 m2 i2) ∧ w'.cell? ⟨w.heap.size, 1, none⟩ = some (.int .i64 (m : Int))) := by
          intro w' hb
          exact ⟨below_cell hb p0, below_cell hb p1, below_cell hb t1⟩
        have HY3 := Lib.hid y3
        have ne1 : ¬ (w.heap.size + 1 = w2.heap.size) := by have := HY.out.lt; have := hWV.size; omega
        have ne2 : ¬ (w2.heap.size = w.heap.size + 1) := by omega
        have hsz1 := HW0.out.size
        have hsz2 := hWX.size
        have HT2 := Lib.hid (HT.out (.slice (some ⟨V.heap.size, 0, none⟩) 1 1) (V.alloc (.cells #[.int .u64 (m : Int)] 117)).drew (below_drew (below_alloc' V _)) ((Cel.new V 117 #[.int .u64 (m : Int)]).sl (s := 1) (xs := u64s [m]) rfl rfl (Nat.le_refl _) (by decide)).drew)
        clear HT hVs
        clear HP2 hpr hred hlu hld y3 y0 yp z0 z1 z2 z3 hWV hWX HY HY0
        go_region_held3 (fun w' => w'.cell? ⟨w2.heap.size, 0, none⟩ = some (.slice X1 m1 i1) ∧ w'.cell? ⟨w2.heap.size, 1, none⟩ = some (.slice X2 m2 i2) ∧ w'.cell? ⟨w.heap.size, 1, none⟩ = some (.int .i64 (m : Int)))
          (first | go_keep | exact HK.out _ (below_undrew (Below.refl _ _)) | exact HK.out _ hbl1 | exact HK.out _ hbl2 | exact HK.out _ hbl3) (first
          | (go_at_call 86; refine (size_any _ _ (by omega) (by omega)).mono ?_; rintro e w3 ⟨rfl, rfl⟩)
          | (go_at_call 87; refine (pratio_pv _ _ 17592186044415 _ ⟨X, Y, hp4, hred4, by have := HU.out; simp at hx4; omega, by have := HU.out; simp at hy4; omega⟩ (by decide)).mono ?_; rintro e w5 ⟨rfl, hb5⟩; have hbl3 : Below V.heap.size V w5 := below_then hbl2 hb5; have y5 := HY3.out.below HY3.out.lt hbl3; obtain ⟨z0, z1, z2, z3⟩ := box2i y5)
          | (go_at_call 104; refine HT2.out.mono ?_; rintro e w4 ⟨r4, X, Y, rfl, hb4', hp4, hred4, hx4, hy4⟩; have hbl2 : Below V.heap.size V w4 := below_then (below_drew (below_alloc' V _)) hb4'; obtain ⟨Z1, k1, j1, Z2, k2, j2, rfl, hq1, hq2⟩ := hp4.shape))
        go_wp2
        exact bodyPost_ret (v := .tuple #[.agg #[.int .i64 (fit (val U D * val [m] [])).n, .int .i64 (fit (val U D * val [m] [])).d], .int .i64 (fit (val U D * val [m] [])).e]) (by simp [results, Tryd.results37, go_sem, z0, z1]) rfl
          ⟨by rw [HC.out, ← HVal.out] <;> rfl, ((below_then hb4 hbl3).setCell (p := ⟨w.heap.size + 1, 0, none⟩) (by simp) _).setCell (p := ⟨w.heap.size + 1, 1, none⟩) (by simp) _⟩
    · rw [if_neg h0] at HC
      have dq : (q0 == 0) = false := beq_eq_false_iff_ne.2 h0
      go_wp2_with (first | (go_at_call 100; refine HN.out.mono ?_; rintro e w1 ⟨rfl, rfl⟩) | (go_at_call_of 101 (Value.string a); refine HI1.out.mono ?_; rintro e w1 ⟨rfl, rfl⟩) | (go_at_call_of 101 (Value.string b); refine HI2.out.mono ?_; rintro e w1 ⟨rfl, rfl⟩) | (go_at_call 97; refine (need_any _ 8 _).mono ?_; rintro e w1 ⟨rfl, rfl⟩) | (go_at_call 102; refine (H3.out _).mono ?_; rintro e w1 ⟨rfl, rfl⟩) | (go_at_call 103; refine (HAL.out _).mono ?_; rintro e w2 ⟨r, rfl, hb2, hp2⟩; obtain ⟨X1, m1, i1, X2, m2, i2, rfl⟩ := hp2.shape; have hsz := hb2.size; have HP2 := Lib.hid (hp2.below (below_alloc' _ (.cells #[.slice X1 m1 i1, .slice X2 m2 i2] 121))); clear hp2; have hWV := (below_then ((below_alloc' W (.cells #[.int .i64 ea, .int .i64 eb, .int .i64 (needF true 8)] 24)).alloc (below_alloc' _ _).size (.cells #[.string a, .string b] 9)) hb2); have hWX := hWV.alloc hWV.size (.cells #[.slice X1 m1 i1, .slice X2 m2 i2] 121); have hb4 := below_then HW0.out hWX; have y3 := HY.out.below HY.out.lt hWX; have y0 := HY0.out.below HY0.out.lt hWX; have yp := Cel.new w2 121 #[.slice X1 m1 i1, .slice X2 m2 i2]; have p0 := yp.cell 0 (.slice X1 m1 i1) rfl; have p1 := yp.cell 1 (.slice X2 m2 i2) rfl; have t1 := y0.cell 1 (.int .i64 n) rfl; have hzz := HZ.out.below hWX; obtain ⟨g0, g1⟩ := hzz; obtain ⟨z0, z1, z2, z3⟩ := box2i y3))
      exact bodyPost_ret (v := .tuple #[.agg #[.int .i64 0, .int .i64 0], .int .i64 q0]) (by simp [results, Tryd.results37, go_sem, z0, z1]) rfl
        ⟨by rw [HC.out] <;> rfl, (hb4.setCell (p := ⟨w.heap.size + 1, 0, none⟩) (by simp) _).setCell (p := ⟨w.heap.size + 1, 1, none⟩) (by simp) _⟩
  · rw [if_neg hc] at HC
    have dc : (ce == 0) = false := beq_eq_false_iff_ne.2 hc
    clear HR HG HBV HZ
    by_cases hn0 : 0 ≤ n
    · have d0 : decide (0 ≤ n) = true := decide_eq_true hn0
      by_cases hn1 : n ≤ 1099511627776
      · have d1 : decide (n ≤ 1099511627776) = true := decide_eq_true hn1
        have hr : rangeB n = true := by simp [rangeB, hn0, hn1]
        rw [hr] at H3
        have y3 := HY.out.alloc (.cells #[.int .i64 ea, .int .i64 eb, .int .i64 (needF true 8)] 24)
        obtain ⟨z0, z1, z2, z3⟩ := box2i y3
        have hb4 := HW0.out.alloc HW0.out.size (.cells #[.int .i64 ea, .int .i64 eb, .int .i64 (needF true 8)] 24)
        go_wp2_with (first | (go_at_call 100; refine HN.out.mono ?_; rintro e w1 ⟨rfl, rfl⟩) | (go_at_call_of 101 (Value.string a); refine HI1.out.mono ?_; rintro e w1 ⟨rfl, rfl⟩) | (go_at_call_of 101 (Value.string b); refine HI2.out.mono ?_; rintro e w1 ⟨rfl, rfl⟩) | (go_at_call 97; refine (need_any _ 8 _).mono ?_; rintro e w1 ⟨rfl, rfl⟩) | (go_at_call 102; refine (H3.out _).mono ?_; rintro e w1 ⟨rfl, rfl⟩))
        exact bodyPost_ret (v := .tuple #[.agg #[.int .i64 0, .int .i64 0], .int .i64 ce]) (by simp [results, Tryd.results37, go_sem, z0, z1]) rfl
          ⟨by rw [HC.out] <;> rfl, (hb4.setCell (p := ⟨w.heap.size + 1, 0, none⟩) (by simp) _).setCell (p := ⟨w.heap.size + 1, 1, none⟩) (by simp) _⟩
      · have d1 : decide (n ≤ 1099511627776) = false := decide_eq_false hn1
        have hr : rangeB n = false := by simp [rangeB, hn1]
        rw [hr] at H3
        have y3 := HY.out.alloc (.cells #[.int .i64 ea, .int .i64 eb, .int .i64 (needF false 8)] 24)
        obtain ⟨z0, z1, z2, z3⟩ := box2i y3
        have hb4 := HW0.out.alloc HW0.out.size (.cells #[.int .i64 ea, .int .i64 eb, .int .i64 (needF false 8)] 24)
        go_wp2_with (first | (go_at_call 100; refine HN.out.mono ?_; rintro e w1 ⟨rfl, rfl⟩) | (go_at_call_of 101 (Value.string a); refine HI1.out.mono ?_; rintro e w1 ⟨rfl, rfl⟩) | (go_at_call_of 101 (Value.string b); refine HI2.out.mono ?_; rintro e w1 ⟨rfl, rfl⟩) | (go_at_call 97; refine (need_any _ 8 _).mono ?_; rintro e w1 ⟨rfl, rfl⟩) | (go_at_call 102; refine (H3.out _).mono ?_; rintro e w1 ⟨rfl, rfl⟩))
        exact bodyPost_ret (v := .tuple #[.agg #[.int .i64 0, .int .i64 0], .int .i64 ce]) (by simp [results, Tryd.results37, go_sem, z0, z1]) rfl
          ⟨by rw [HC.out] <;> rfl, (hb4.setCell (p := ⟨w.heap.size + 1, 0, none⟩) (by simp) _).setCell (p := ⟨w.heap.size + 1, 1, none⟩) (by simp) _⟩
    · have d0 : decide (0 ≤ n) = false := decide_eq_false hn0
      have hr : rangeB n = false := by simp [rangeB, hn0]
      rw [hr] at H3
      have y3 := HY.out.alloc (.cells #[.int .i64 ea, .int .i64 eb, .int .i64 (needF false 8)] 24)
      obtain ⟨z0, z1, z2, z3⟩ := box2i y3
      have hb4 := HW0.out.alloc HW0.out.size (.cells #[.int .i64 ea, .int .i64 eb, .int .i64 (needF false 8)] 24)
      go_wp2_with (first | (go_at_call 100; refine HN.out.mono ?_; rintro e w1 ⟨rfl, rfl⟩) | (go_at_call_of 101 (Value.string a); refine HI1.out.mono ?_; rintro e w1 ⟨rfl, rfl⟩) | (go_at_call_of 101 (Value.string b); refine HI2.out.mono ?_; rintro e w1 ⟨rfl, rfl⟩) | (go_at_call 97; refine (need_any _ 8 _).mono ?_; rintro e w1 ⟨rfl, rfl⟩) | (go_at_call 102; refine (H3.out _).mono ?_; rintro e w1 ⟨rfl, rfl⟩))
      exact bodyPost_ret (v := .tuple #[.agg #[.int .i64 0, .int .i64 0], .int .i64 ce]) (by simp [results, Tryd.results37, go_sem, z0, z1]) rfl
        ⟨by rw [HC.out] <;> rfl, (hb4.setCell (p := ⟨w.heap.size + 1, 0, none⟩) (by simp) _).setCell (p := ⟨w.heap.size + 1, 1, none⟩) (by simp) _⟩
end

section
open Go Go.RowKit Go.Shelf
attribute [local go_sem] rrV

theorem fit_bd (q : Rat) : Bd (fit q).n ∧ Bd (fit q).d ∧ Bd (fit q).e := by
  unfold fit
  split
  · rename_i h; refine ⟨⟨?_, ?_⟩, ⟨?_, ?_⟩, ⟨?_, ?_⟩⟩ <;> simp <;> omega
  · exact ⟨by unfold Bd; decide, by unfold Bd; decide, by unfold Bd; decide⟩
theorem conv_bd (st : St) (a : ByteArray) (n : Int) (b : ByteArray) : Bd (convF st a n b).n ∧ Bd (convF st a n b).d := by
  have hz : Bd 0 ∧ Bd 1 := ⟨by unfold Bd; decide, by unfold Bd; decide⟩
  unfold convF
  split
  · split
    · split
      · exact hz
      · exact ⟨(fit_bd _).1, (fit_bd _).2.1⟩
    · exact ⟨hz.1, hz.1⟩
  · exact ⟨hz.1, hz.1⟩
/-- The whole units, the rest, the error. -/
def wholeV (st : St) (a : ByteArray) (n : Int) (b : ByteArray) : Value :=
  if (convF st a n b).e = 0 then
    if isR (convF st a n b).n (convF st a n b).d then .tuple #[.agg #[.string b, .int .i64 ((convF st a n b).n / (convF st a n b).d)], .agg #[.int .i64 ((convF st a n b).n % (convF st a n b).d), .int .i64 (convF st a n b).d], .int .i64 0]
    else .tuple #[.agg #[.string b, .int .i64 0], .agg #[.int .i64 0, .int .i64 0], .int .i64 2]
  else .tuple #[.agg #[.string ⟨#[]⟩, .int .i64 0], .agg #[.int .i64 0, .int .i64 0], .int .i64 (convF st a n b).e]

set_option maxRecDepth 100000 in
set_option maxHeartbeats 1000000 in
theorem whole_any (Bk bm : Nat) (lv gv fv : Value) (st : St) (a b : ByteArray) (n : Int) (w : World) (hb : BookV w Bk bm lv gv fv st) (hg : Good st) (hz : Zw w) :
    Calls Tryd.prog 38 #[.pointer (some ⟨Bk, 0, none⟩), .agg #[.string a, .int .i64 n], .string b] w fun e w' => e = .returned (wholeV st a n b) ∧ Below w.heap.size w w' := by
  have Y0 := ((Cel.new w 51 #[.string a, .int .i64 n]).alloc (.cells #[.string ⟨#[]⟩, .int .i64 0] 51)).alloc (.cells #[.int .i64 0, .int .i64 0] 23)
  have Y1 := (Cel.new (w.alloc (.cells #[.string a, .int .i64 n] 51)) 51 #[.string ⟨#[]⟩, .int .i64 0]).alloc (.cells #[.int .i64 0, .int .i64 0] 23)
  have Y2 := Cel.new ((w.alloc (.cells #[.string a, .int .i64 n] 51)).alloc (.cells #[.string ⟨#[]⟩, .int .i64 0] 51)) 23 #[.int .i64 0, .int .i64 0]
  simp only [World.size_alloc] at Y1 Y2
  have hw0 : Below w.heap.size w (((w.alloc (.cells #[.string a, .int .i64 n] 51)).alloc (.cells #[.string ⟨#[]⟩, .int .i64 0] 51)).alloc (.cells #[.int .i64 0, .int .i64 0] 23)) := ((below_alloc' _ _).alloc (by simp) _).alloc (by simp; omega) _
  obtain ⟨W, hW⟩ : ∃ W, ((w.alloc (.cells #[.string a, .int .i64 n] 51)).alloc (.cells #[.string ⟨#[]⟩, .int .i64 0] 51)).alloc (.cells #[.int .i64 0, .int .i64 0] 23) = W := ⟨_, rfl⟩
  rw [hW] at Y0 Y1 Y2 hw0
  have HC := Lib.hid (convert_any Bk bm lv gv fv st a b n W (hb.below hw0) hg (hz.below hw0))
  have HY1 := Lib.hid Y1
  have HY2 := Lib.hid Y2
  have HW0 := Lib.hid hw0
  have HZ := Lib.hid (hz.below hw0)
  have a0 := Y0.cell 0 (.string a) rfl
  have a1 := Y0.cell 1 (.int .i64 n) rfl
  have HBD := Lib.hid (conv_bd st a n b)
  have HV := Lib.hid (show wholeV st a n b = if (convF st a n b).e = 0 then
    if isR (convF st a n b).n (convF st a n b).d then .tuple #[.agg #[.string b, .int .i64 ((convF st a n b).n / (convF st a n b).d)], .agg #[.int .i64 ((convF st a n b).n % (convF st a n b).d), .int .i64 (convF st a n b).d], .int .i64 0]
    else .tuple #[.agg #[.string b, .int .i64 0], .agg #[.int .i64 0, .int .i64 0], .int .i64 2]
  else .tuple #[.agg #[.string ⟨#[]⟩, .int .i64 0], .agg #[.int .i64 0, .int .i64 0], .int .i64 (convF st a n b).e] from rfl)
  clear Y0 Y1 Y2 hw0 hb hg hz
  generalize convF st a n b = c at *
  obtain ⟨N, D, E⟩ := c
  simp only at HV HBD
  generalize wholeV st a n b = q at *
  go_enter Tryd.func38, Tryd.ntmps38
  by_cases hE : E = 0
  · rw [if_pos hE] at HV
    have dE : (E == 0) = true := beq_iff_eq.2 hE
    subst hE
    cases HR : isR N D
    · rw [HR] at HV
      have HFV := Lib.hid (show floorV N D = .tuple #[.int .i64 0, .agg #[.int .i64 0, .int .i64 0], .int .i64 2] by simp [floorV, HR])
      go_wp2_with (first | (go_at_call 37; refine HC.out.mono ?_; rintro e w1 ⟨rfl, hb1⟩; have y1 := (HY1.out.below HY1.out.lt hb1).alloc (.cells #[.int .i64 N, .int .i64 D] 23); have y2 := (HY2.out.below HY2.out.lt hb1).alloc (.cells #[.int .i64 N, .int .i64 D] 23); have hb2 := below_then HW0.out (hb1.alloc hb1.size (.cells #[.int .i64 N, .int .i64 D] 23)); have hsz := hb1.size; have hzz := HZ.out.below (hb1.alloc hb1.size (.cells #[.int .i64 N, .int .i64 D] 23)); have HZ2 := Lib.hid hzz; clear hzz) | (go_at_call 48; refine (floor_any N D _ HZ2.out HBD.out.1 HBD.out.2).mono ?_; rintro e w3 ⟨he3, hb3⟩; rw [HFV.out] at he3; subst he3; have y4 := y1.below y1.lt hb3; have y5 := y2.below y2.lt hb3; have hb4 := below_then hb2 hb3; have s0 := y4.cell 0 (.string ⟨#[]⟩) rfl; have s1 := y4.cell 1 (.int .i64 0) rfl; have s2 := y4.frozen 0; have s3 := y4.frozen 1; obtain ⟨z0, z1, z2, z3⟩ := box2i y5; have HY4 := Lib.hid y4; have HY5 := Lib.hid y5; clear y1 y2 y4 y5))
      go_region
      go_wp2
      have k4 := ((((HY4.out.other (p := ⟨w.heap.size + 1 + 1, 0, none⟩) (by simp) (.int .i64 0)).other (p := ⟨w.heap.size + 1 + 1, 1, none⟩) (by simp) (.int .i64 0)).set2 (.string b) (.int .i64 0)).other (p := ⟨w.heap.size + 1 + 1, 0, none⟩) (by simp) (.int .i64 0)).other (p := ⟨w.heap.size + 1 + 1, 1, none⟩) (by simp) (.int .i64 0)
      have k5 := (((HY5.out.set2 (.int .i64 0) (.int .i64 0)).other (p := ⟨w.heap.size + 1, 0, none⟩) (by simp) (.string b)).other (p := ⟨w.heap.size + 1, 1, none⟩) (by simp) (.int .i64 0)).set2 (.int .i64 0) (.int .i64 0)
      have f0 := k4.cell 0 (.string b) rfl
      have f1 := k4.cell 1 (.int .i64 0) rfl
      have f2 := k5.cell 0 (.int .i64 0) rfl
      have f3 := k5.cell 1 (.int .i64 0) rfl
      exact bodyPost_ret (v := .tuple #[.agg #[.string b, .int .i64 0], .agg #[.int .i64 0, .int .i64 0], .int .i64 2]) (by simp only [results, Tryd.results38]; simp only [go_sem]; simp [go_sem, f0, f1, f2, f3]) rfl
        ⟨by rw [HV.out] <;> rfl, below_drew (Below.setCell (Below.setCell (Below.setCell (Below.setCell (Below.setCell (Below.setCell hb4 (by simp; omega) _) (by simp; omega) _) (by simp) _) (by simp) _) (by simp; omega) _) (by simp; omega) _)⟩
    · rw [HR] at HV
      have HFV := Lib.hid (show floorV N D = .tuple #[.int .i64 (N / D), .agg #[.int .i64 (N % D), .int .i64 D], .int .i64 0] by simp [floorV, HR])
      go_wp2_with (first | (go_at_call 37; refine HC.out.mono ?_; rintro e w1 ⟨rfl, hb1⟩; have y1 := (HY1.out.below HY1.out.lt hb1).alloc (.cells #[.int .i64 N, .int .i64 D] 23); have y2 := (HY2.out.below HY2.out.lt hb1).alloc (.cells #[.int .i64 N, .int .i64 D] 23); have hb2 := below_then HW0.out (hb1.alloc hb1.size (.cells #[.int .i64 N, .int .i64 D] 23)); have hsz := hb1.size; have hzz := HZ.out.below (hb1.alloc hb1.size (.cells #[.int .i64 N, .int .i64 D] 23)); have HZ2 := Lib.hid hzz; clear hzz) | (go_at_call 48; refine (floor_any N D _ HZ2.out HBD.out.1 HBD.out.2).mono ?_; rintro e w3 ⟨he3, hb3⟩; rw [HFV.out] at he3; subst he3; have y4 := y1.below y1.lt hb3; have y5 := y2.below y2.lt hb3; have hb4 := below_then hb2 hb3; have s0 := y4.cell 0 (.string ⟨#[]⟩) rfl; have s1 := y4.cell 1 (.int .i64 0) rfl; have s2 := y4.frozen 0; have s3 := y4.frozen 1; obtain ⟨z0, z1, z2, z3⟩ := box2i y5; have HY4 := Lib.hid y4; have HY5 := Lib.hid y5; clear y1 y2 y4 y5))
      go_region
      go_wp2
      have k4 := ((((HY4.out.other (p := ⟨w.heap.size + 1 + 1, 0, none⟩) (by simp) (.int .i64 (N % D))).other (p := ⟨w.heap.size + 1 + 1, 1, none⟩) (by simp) (.int .i64 D)).set2 (.string b) (.int .i64 (N / D))).other (p := ⟨w.heap.size + 1 + 1, 0, none⟩) (by simp) (.int .i64 (N % D))).other (p := ⟨w.heap.size + 1 + 1, 1, none⟩) (by simp) (.int .i64 D)
      have k5 := (((HY5.out.set2 (.int .i64 (N % D)) (.int .i64 D)).other (p := ⟨w.heap.size + 1, 0, none⟩) (by simp) (.string b)).other (p := ⟨w.heap.size + 1, 1, none⟩) (by simp) (.int .i64 (N / D))).set2 (.int .i64 (N % D)) (.int .i64 D)
      have f0 := k4.cell 0 (.string b) rfl
      have f1 := k4.cell 1 (.int .i64 (N / D)) rfl
      have f2 := k5.cell 0 (.int .i64 (N % D)) rfl
      have f3 := k5.cell 1 (.int .i64 D) rfl
      exact bodyPost_ret (v := .tuple #[.agg #[.string b, .int .i64 (N / D)], .agg #[.int .i64 (N % D), .int .i64 D], .int .i64 0]) (by simp only [results, Tryd.results38]; simp only [go_sem]; simp [go_sem, f0, f1, f2, f3]) rfl
        ⟨by rw [HV.out] <;> rfl, below_drew (Below.setCell (Below.setCell (Below.setCell (Below.setCell (Below.setCell (Below.setCell hb4 (by simp; omega) _) (by simp; omega) _) (by simp) _) (by simp) _) (by simp; omega) _) (by simp; omega) _)⟩
  · rw [if_neg hE] at HV
    have dE : (E == 0) = false := beq_eq_false_iff_ne.2 hE
    go_wp2_with (go_at_call 37; refine HC.out.mono ?_; rintro e w1 ⟨rfl, hb1⟩; have y1 := (HY1.out.below HY1.out.lt hb1).alloc (.cells #[.int .i64 N, .int .i64 D] 23); have y2 := (HY2.out.below HY2.out.lt hb1).alloc (.cells #[.int .i64 N, .int .i64 D] 23); have hb2 := below_then HW0.out (hb1.alloc hb1.size (.cells #[.int .i64 N, .int .i64 D] 23)); have hsz := hb1.size; have s0 := y1.cell 0 (.string ⟨#[]⟩) rfl; have s1 := y1.cell 1 (.int .i64 0) rfl; have s2 := y1.frozen 0; have s3 := y1.frozen 1; obtain ⟨z0, z1, z2, z3⟩ := box2i y2)
    exact bodyPost_ret (v := .tuple #[.agg #[.string ⟨#[]⟩, .int .i64 0], .agg #[.int .i64 0, .int .i64 0], .int .i64 E]) (by simp [results, Tryd.results38, go_sem, s0, s1, z0, z1]) rfl
      ⟨by rw [HV.out] <;> rfl, (((hb2.setCell (p := ⟨w.heap.size + 1, 0, none⟩) (by simp) _).setCell (p := ⟨w.heap.size + 1, 1, none⟩) (by simp) _).setCell (p := ⟨w.heap.size + 1 + 1, 0, none⟩) (by simp; omega) _).setCell (p := ⟨w.heap.size + 1 + 1, 1, none⟩) (by simp; omega) _⟩
end

section
open Go Go.RowKit Go.Shelf
attribute [local go_sem] rrV

/-- A bridge. -/
structure Br where
  A : ByteArray
  SA : ByteArray
  B : ByteArray
  SB : ByteArray
  N : Int
  D : Int
  hN : Bd N
  hD : Bd D
def brV (b : Br) : List Value := [.string b.A, .string b.SA, .string b.B, .string b.SB, .int .i64 b.N, .int .i64 b.D]
def brsV (l : List Br) : List Value := l.flatMap brV
def mkBr (A SA B SB : ByteArray) (N D : Int) (hN : Bd N := by unfold Bd; decide) (hD : Bd D := by unfold Bd; decide) : Br := ⟨A, SA, B, SB, N, D, hN, hD⟩
/-- Those of the chapter's example. -/
def exB : List Br := [mkBr ⟨#[103, 114, 97, 105, 110]⟩ ⟨#[110, 48, 49]⟩ ⟨#[119, 101, 105, 103, 104, 116]⟩ ⟨#[109, 97, 110, 97]⟩ 1 2,
  mkBr ⟨#[116, 105, 109, 101]⟩ ⟨#[110, 48, 49]⟩ ⟨#[103, 114, 97, 105, 110]⟩ ⟨#[110, 49, 52]⟩ 5 1]

set_option maxRecDepth 100000 in
set_option maxHeartbeats 1000000 in
theorem bridges_any (w : World) : Calls Tryd.prog 93 #[] w fun e w' => ∃ v, e = .returned v ∧ Sl w' 6 v (brsV exB) ∧ Below w.heap.size w w' := by
  go_enter Tryd.func93, Tryd.ntmps93
  go_wp2
  go_ret
  exact ⟨_, rfl, (Cel.new w 83 _).sl (s := 6) rfl rfl (Nat.le_refl _) (by decide), below_alloc' _ _⟩

set_option maxRecDepth 100000 in
set_option maxHeartbeats 1000000 in
theorem lawratio_any (n d : Int) (w : World) (hz : Zw w) (h1 : -9223372036854775808 ≤ n) (h2 : n ≤ 9223372036854775807) (h3 : -9223372036854775808 ≤ d) (h4 : d ≤ 9223372036854775807) :
    Calls Tryd.prog 46 #[.int .i64 n, .int .i64 d] w fun e w' => e = .returned (.tuple #[.agg #[.int .i64 (ratioF n d).n, .int .i64 (ratioF n d).d], .bool ((ratioF n d).e == 0)]) ∧ Below w.heap.size w w' := by
  have Y := Cel.new w 23 #[.int .i64 0, .int .i64 0]
  have hw0 : Below w.heap.size w (w.alloc (.cells #[.int .i64 0, .int .i64 0] 23)) := below_alloc' _ _
  obtain ⟨W, hW⟩ : ∃ W, w.alloc (.cells #[.int .i64 0, .int .i64 0] 23) = W := ⟨_, rfl⟩
  rw [hW] at Y hw0
  have HR := Lib.hid (ratio_any n d W (hz.below hw0) h1 h2 h3 h4)
  have HY := Lib.hid Y
  have HW0 := Lib.hid hw0
  clear Y hw0
  generalize ratioF n d = q at *
  obtain ⟨N, D, E⟩ := q
  go_enter Tryd.func46, Tryd.ntmps46
  go_wp2_with (go_at_call 21; refine HR.out.mono ?_; rintro e w1 ⟨rfl, hb1⟩; have hsz := hb1.size; have hb2 := below_then HW0.out (hb1.alloc hb1.size (.cells #[.int .i64 N, .int .i64 D] 23)); have y1 := (HY.out.below HY.out.lt hb1).alloc (.cells #[.int .i64 N, .int .i64 D] 23); obtain ⟨z0, z1, z2, z3⟩ := box2i y1)
  exact bodyPost_ret (v := .tuple #[.agg #[.int .i64 N, .int .i64 D], .bool (E == 0)]) (by simp [results, Tryd.results46, go_sem, z0, z1]) rfl
    ⟨rfl, (hb2.setCell (p := ⟨w.heap.size, 0, none⟩) (by simp) _).setCell (p := ⟨w.heap.size, 1, none⟩) (by simp) _⟩
end
end Go.Proofs.YtmibpncmebhbjaaDoor
