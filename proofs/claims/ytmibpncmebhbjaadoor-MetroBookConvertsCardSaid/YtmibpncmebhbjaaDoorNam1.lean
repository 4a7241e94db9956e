/- The walks of Names and Group of a book. -/
import Derived.Test.YtmibpncmebhbjaaDoorP9
namespace Go.Proofs.YtmibpncmebhbjaaDoor
open Go Go.RowKit Go.Shelf
attribute [local go_sem] Oper.semAt_some

theorem infoStr : (Tryd.prog.info? 9).map (fun i => (i.zero, i.size, i.bytes)) = some (some (.string ⟨#[]⟩), 1, 16) := by kernel_rfl
section
variable {ops : Array Oper} {rest : List Oper} {o : Oper} {a : Act} {Q : Exit → Act → World → Prop} {w : World}
theorem appStr (s x : Operand) (hgd : o.guard = none) (ho : o.op = .call { callee := .builtin .append, args := #[s, x], argTypes := #[57, 57] })
    {base n : Nat} {v vx : Value} {xs news : List Value} (hs : a.eval s = v) (hx : a.eval x = vx) (hown : w.ownsRow base 9 1 v n xs) (hr : Sl w 1 vx news) (h1 : ∀ u ∈ news, u.oneCell' = true)
    {N : Nat} (hN : n + news.length = N) (hb : N ≤ 8796093022208) (hbase : base ≤ w.heap.size)
    (h : ∀ A c w', Appended base 9 1 v xs news w w' A N c → wpList Tryd.prog ops Q rest (a.put o.dst (.slice A N c)) w') : wpList Tryd.prog ops Q (o :: rest) a w := by
  obtain ⟨i, hi, hz0, hz1, hz2⟩ := info_parts infoStr
  exact wpList_app w hgd s x 57 ho base 9 i (.string ⟨#[]⟩) 1 16 Tryd.underlying57 hi hz0 hz1 hz2 rfl (by decide) v n xs hs hown vx news hx hr h1 N (by omega) (by omega) (by decide) hbase h
end
theorem namesV_length (l : List ByteArray) : (namesV l).length = l.length := by simp [namesV]
theorem namesV_append (l m : List ByteArray) : namesV (l ++ m) = namesV l ++ namesV m := by simp [namesV]
def nmsOf (ls : List La) : List ByteArray := ls.map (·.nm)
theorem nmsOf_take {ls : List La} {k : Nat} (h : k < ls.length) : nmsOf (ls.take (k + 1)) = nmsOf (ls.take k) ++ [ls[k].nm] := by
  unfold nmsOf
  rw [List.take_succ_eq_append_getElem h, List.map_append]; rfl
theorem nmsOf_length (ls : List La) : (nmsOf ls).length = ls.length := by simp [nmsOf]
/-- The names among the first k ladders that are connected with ladder i. -/
def groupK (st : St) (i : Nat) : Nat → List ByteArray
  | 0 => []
  | k + 1 => groupK st i k ++ (match st.ls[k]? with | some l => if grpAt st k = grpAt st i then [l.nm] else [] | none => [])
theorem groupK_yes {st : St} {i k : Nat} (h : k < st.ls.length) (hg : grpAt st k = grpAt st i) : groupK st i (k + 1) = groupK st i k ++ [st.ls[k].nm] := by
  simp [groupK, h, hg]
theorem groupK_no {st : St} {i k : Nat} (hg : grpAt st k ≠ grpAt st i) : groupK st i (k + 1) = groupK st i k := by
  rw [groupK]
  cases st.ls[k]? with
  | none => simp
  | some l => simp [hg]
theorem groupK_length (st : St) (i k : Nat) : (groupK st i k).length ≤ k := by
  induction k with
  | zero => simp [groupK]
  | succ k ih =>
    rw [groupK, List.length_append]
    have : ((match st.ls[k]? with | some l => if grpAt st k = grpAt st i then [l.nm] else [] | none => []) : List ByteArray).length ≤ 1 := by
      cases st.ls[k]? with
      | none => simp
      | some l => simp only; split <;> simp
    omega
def groupF (st : St) (nm : ByteArray) : List ByteArray := if idxE st.ls nm = 0 then groupK st (idxI st.ls nm) st.ls.length else []

set_option maxRecDepth 100000 in
set_option maxHeartbeats 2000000 in
theorem names_any (Bk bm : Nat) (lv gv fv : Value) (st : St) (w : World) (hb : BookV w Bk bm lv gv fv st) (hg : Good st) :
    Calls Tryd.prog 59 #[.pointer (some ⟨Bk, 0, none⟩)] w fun e w' => ∃ v, e = .returned v ∧ Sl w' 1 v (namesV (nmsOf st.ls)) ∧ Below w.heap.size w w' := by
  obtain ⟨A, c, rfl, hlc, hcm, hlk⟩ := hb.lads.open
  have HLK := Lib.hid hlk
  have hBk := hb.blk
  have q0 := hBk.cell 0 _ rfl
  have hfew := hg.few
  have HN := Lib.hid (none_no Bk bm (.slice A st.ls.length c) gv fv w hBk)
  clear hlk hb hg hBk
  go_enter Tryd.func59, Tryd.ntmps59
  go_wp2_with fail
  go_fit HN.out
  rintro e w' ⟨rfl, rfl⟩
  go_wp2
  go_loopw [3, 13] (fun v i wr => ∃ (k : Nat), k ≤ st.ls.length ∧ i = .int .i64 k ∧ wr.ownsRow w.heap.size 9 1 v k (namesV (nmsOf (st.ls.take k))) ∧ Below w.heap.size w wr) (fun _ i _ => st.ls.length - (intOf i).toNat)
  case atStart => exact ⟨0, by omega, rfl, World.ownsRow_nil _ _ _ _, Below.refl _ _⟩
  case round =>
    obtain ⟨k, hk, rfl, hown, hbel⟩ := hrel
    by_cases hlt : k < st.ls.length
    · obtain ⟨b, o, A', c', rfl, _, h1, h2, _⟩ := HLK.out k hlt
      have e0 := below_cell hbel h1
      have e1 := below_cell hbel h2
      have HS := Lib.hid (nmsOf_take hlt)
      have hsz := hbel.size
      clear h1 h2
      generalize st.ls[k].nm = nm at *
      generalize st.ls[k].us.length = ul at *
      have hown1 := hown.alloc (.cells #[.string nm, .slice A' ul c'] 33)
      have HO := Lib.hid (hown1.alloc (.cells #[.string nm] 9))
      have HB := Lib.hid ((hbel.alloc hsz (.cells #[.string nm, .slice A' ul c'] 33)).alloc (by simp; omega) (.cells #[.string nm] 9))
      have hS1 := Sl.new (s := 1) (wr.alloc (.cells #[.string nm, .slice A' ul c'] 33)) 9 1 1 #[.string nm] rfl (Nat.le_refl _) (by decide)
      rw [World.size_alloc] at hS1
      have HS1 := Lib.hid hS1
      clear hown hown1 hbel hS1
      go_wp2_with (at_builtin; refine appStr _ _ rfl rfl rfl rfl HO.out HS1.out (by simp [Value.oneCell']) (N := k + 1) (by simp) (by omega) (by simp; omega) ?_; intro A1 c1 w1 hap)
      have HB1 := Lib.hid (below_of_own hap.grown HO.out HB.out (Nat.le_refl _))
      have HO1 := Lib.hid hap.own
      clear hap e0 e1
      go_wp2
      go_roundw
      case rel => exact ⟨k + 1, hlt, by go_num, by rw [HS.out, namesV_append]; simpa [namesV] using HO1.out, HB1.out⟩
      case measure => simp [intOf]; omega
    · have HT := Lib.hid (show st.ls.take k = st.ls from List.take_of_length_le (by omega))
      have HSL := Lib.hid (Sl.of_own hown)
      go_wp2
      go_ret
      exact ⟨_, rfl, by rw [← HT.out]; exact HSL.out, hbel⟩

set_option maxRecDepth 100000 in
set_option maxHeartbeats 2000000 in
theorem group_any (Bk bm : Nat) (lv gv fv : Value) (st : St) (nm : ByteArray) (w : World) (hb : BookV w Bk bm lv gv fv st) (hg : Good st) :
    Calls Tryd.prog 52 #[.pointer (some ⟨Bk, 0, none⟩), .string nm] w fun e w' => ∃ v, e = .returned v ∧ Sl w' 1 v (namesV (groupF st nm)) ∧ Below w.heap.size w w' := by
  obtain ⟨A, c, rfl, hlc, hcm, hlk⟩ := hb.lads.open
  have HLK := Lib.hid hlk
  have hBk := hb.blk
  have q0 := hBk.cell 0 _ rfl
  have hfew := hg.few
  have HN := Lib.hid (none_no Bk bm (.slice A st.ls.length c) gv fv w hBk)
  have HI := Lib.hid (index_any Bk bm (.slice A st.ls.length c) gv fv st.ls nm w hBk hb.place)
  obtain ⟨A2, n2, c2, rfl, hn2, hc2, hm2, hgc⟩ := (show Sl w 1 gv (grpV st.grp) from hb.grp).open2 (by decide)
  rw [grpV_length, hg.grp] at hn2
  obtain rfl : n2 = st.ls.length := by omega
  have HG := Lib.hid hgc
  have HGL := Lib.hid hg.grp
  have HQ := Lib.hid hBk
  clear hlk hb hg hgc hn2
  go_enter Tryd.func52, Tryd.ntmps52
  go_wp2_with fail
  go_fit HN.out
  rintro e w' ⟨rfl, rfl⟩
  go_wp2_with fail
  go_fit HI.out
  rintro e w' ⟨rfl, rfl⟩
  by_cases hi : idxE st.ls nm = 0
  · have HF := Lib.hid (show groupF st nm = groupK st (idxI st.ls nm) st.ls.length from if_pos hi)
    have hix := idxI_lt hi
    have hi1 : (idxE st.ls nm != 0) = false := by simp [hi]
    generalize idxE st.ls nm = ie at *
    generalize idxI st.ls nm = ix at *
    clear hi HN HI
    go_wp2
    go_loopw [7, 25] (fun v i wr => ∃ (k n : Nat), k ≤ st.ls.length ∧ i = .int .i64 k ∧ wr.ownsRow w.heap.size 9 1 v n (namesV (groupK st ix k)) ∧ n ≤ k ∧ Below w.heap.size w wr) (fun _ i _ => st.ls.length - (intOf i).toNat)
    case atStart => exact ⟨0, 0, by omega, rfl, World.ownsRow_nil _ _ _ _, by omega, Below.refl _ _⟩
    case round =>
      obtain ⟨k, n, hk, rfl, hown, hnk, hbel⟩ := hrel
      by_cases hlt : k < st.ls.length
      · obtain ⟨b, o, A', c', rfl, _, h1, h2, _⟩ := HLK.out k hlt
        have e0 := below_cell hbel h1
        have e1 := below_cell hbel h2
        obtain ⟨gb, go, rfl, _, hgg⟩ := HG.out (by omega)
        have hq := HQ.out.below HQ.out.lt hbel
        have p2 := hq.cell 2 _ rfl
        have hgk : ∀ j, j < st.ls.length → wr.cell? ⟨gb, go + j, none⟩ = some (.int .i64 (grpAt st j : Int)) := fun j hj => by
          have hj' : j < st.grp.length := by rw [HGL.out]; exact hj
          refine below_cell hbel (hgg j _ ?_)
          simp [grpV, hj', grpAt_get st hj']
        have g1 := hgk k hlt
        have g2 := hgk ix hix
        have HYES := Lib.hid (fun h => groupK_yes (st := st) (i := ix) hlt h)
        have HNO := Lib.hid (fun h => groupK_no (st := st) (i := ix) (k := k) h)
        have hsz := hbel.size
        have k1 : (0 : Int) ≤ (k : Int) := by omega
        have k2 : (k : Int) < (st.ls.length : Int) := by omega
        have k3 : (0 : Int) ≤ (ix : Int) := by omega
        have k4 : (ix : Int) < (st.ls.length : Int) := by omega
        clear h1 h2 hgk hgg
        generalize st.ls[k].nm = nmk at *
        generalize st.ls[k].us.length = ul at *
        have HO := Lib.hid (hown.alloc (.cells #[.string nmk, .slice A' ul c'] 33))
        have HB := Lib.hid (hbel.alloc hsz (.cells #[.string nmk, .slice A' ul c'] 33))
        have r0 := (Cel.new wr 33 #[.string nmk, .slice A' ul c']).cell 0 _ rfl
        have p2' := (hq.alloc (.cells #[.string nmk, .slice A' ul c'] 33)).cell 2 _ rfl
        have hb1 := below_alloc' wr (.cells #[.string nmk, .slice A' ul c'] 33)
        have g1' := below_cell hb1 g1
        have g2' := below_cell hb1 g2
        clear hown hbel hq hb1
        generalize hga : grpAt st k = ga at *
        generalize hgb : grpAt st ix = gb2 at *
        have hga2 := Lib.hid hga
        clear hga hgb
        by_cases hgr : ga = gb2
        · have hd : ((ga : Int) == (gb2 : Int)) = true := by simp [hgr]
          have HS := Lib.hid (HYES.out hgr)
          clear hgr HYES HNO
          go_wp2_with fail
          go_quiet (fail)
          have HO2 := Lib.hid ((own_drewN HO.out nq).alloc (.cells #[.string nmk] 9))
          have HB2 := Lib.hid ((below_drewN HB.out nq).alloc (by simp; omega) (.cells #[.string nmk] 9))
          have hS1 := Sl.new (s := 1) ((wr.alloc (.cells #[.string nmk, .slice A' ul c'] 33)).drewN nq) 9 1 1 #[.string nmk] rfl (Nat.le_refl _) (by decide)
          have hsz2 : ((wr.alloc (.cells #[.string nmk, .slice A' ul c'] 33)).drewN nq).heap.size = wr.heap.size + 1 := by simp
          rw [hsz2] at hS1
          have HS1 := Lib.hid hS1
          clear hS1 hsz2
          go_wp2_with (at_builtin; refine appStr _ _ rfl rfl rfl rfl HO2.out HS1.out (by simp [Value.oneCell']) (N := n + 1) (by simp) (by omega) (by simp; omega) ?_; intro A1 c1 w1 hap)
          have HB3 := Lib.hid (below_of_own hap.grown HO2.out HB2.out (Nat.le_refl _))
          have HO3 := Lib.hid hap.own
          clear hap e0 e1
          go_wp2
          go_roundw
          case rel => exact ⟨k + 1, n + 1, hlt, by go_num, by rw [HS.out, namesV_append]; simpa [namesV] using HO3.out, by omega, HB3.out⟩
          case measure => simp [intOf]; omega
        · have hd : ((ga : Int) == (gb2 : Int)) = false := by rw [beq_eq_false_iff_ne]; omega
          have HS := Lib.hid (HNO.out hgr)
          clear hgr HYES HNO
          go_wp2_with fail
          go_quiet (fail)
          go_wp2
          go_roundw
          case rel => exact ⟨k + 1, n, hlt, by go_num, by rw [HS.out]; exact own_drewN HO.out nq, by omega, below_drewN HB.out nq⟩
          case measure => simp [intOf]; omega
      · obtain rfl : k = st.ls.length := by omega
        have HSL := Lib.hid (Sl.of_own hown)
        go_wp2
        go_ret
        exact ⟨_, rfl, by rw [HF.out]; exact HSL.out, hbel⟩
  · have HF := Lib.hid (show groupF st nm = [] from if_neg hi)
    have hi1 : (idxE st.ls nm != 0) = true := by simpa using hi
    clear hi
    generalize idxE st.ls nm = ie at *
    go_wp2
    go_ret
    exact ⟨_, rfl, by rw [HF.out]; exact Sl.nil0 _ _, Below.refl _ _⟩
end Go.Proofs.YtmibpncmebhbjaaDoor
