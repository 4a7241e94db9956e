/- The reference's fractions along bridges: the walk of along. -/
import Derived.Test.YtmibpncmebhbjaaDoorRbk4
import Derived.Test.YtmibpncmebhbjaaDoorRbk2
namespace Go.Proofs.YtmibpncmebhbjaaDoor
open Go Go.RowKit Go.Shelf
attribute [local go_sem] Oper.semAt_some

/-- What steps multiply a fraction by. -/
def stUp (st : St) (bs : List Br) (s : Nat × Bool) : List Nat := match bs[s.1]? with | some b => brUp st b s.2 | none => []
def stDn (st : St) (bs : List Br) (s : Nat × Bool) : List Nat := match bs[s.1]? with | some b => brDn st b s.2 | none => []
def pUp (st : St) (bs : List Br) (l : List (Nat × Bool)) : List Nat := l.flatMap (stUp st bs)
def pDn (st : St) (bs : List Br) (l : List (Nat × Bool)) : List Nat := l.flatMap (stDn st bs)
theorem brUp_len (st : St) (b : Br) (q : Bool) : (brUp st b q).length = 2 ∧ (brDn st b q).length = 2 := by cases q <;> exact ⟨rfl, rfl⟩
theorem pUp_snoc {st : St} {bs : List Br} {l : List (Nat × Bool)} {k : Nat} (hk : k < l.length) (hb : l[k].1 < bs.length) :
    pUp st bs (l.take (k + 1)) = pUp st bs (l.take k) ++ brUp st bs[l[k].1] l[k].2 ∧ pDn st bs (l.take (k + 1)) = pDn st bs (l.take k) ++ brDn st bs[l[k].1] l[k].2 := by
  rw [List.take_succ_eq_append_getElem hk]
  unfold pUp pDn
  rw [List.flatMap_append, List.flatMap_append]
  simp [stUp, stDn, hb]
theorem pUp_len {st : St} {bs : List Br} {l : List (Nat × Bool)} (h : ∀ s ∈ l, s.1 < bs.length) : (pUp st bs l).length = l.length * 2 ∧ (pDn st bs l).length = l.length * 2 := by
  induction l with
  | nil => exact ⟨rfl, rfl⟩
  | cons s l ih =>
    obtain ⟨h1, h2⟩ := ih (fun x hx => h x (by simp [hx]))
    have hs := h s (by simp)
    have e := brUp_len st bs[s.1] s.2
    unfold pUp pDn at *
    simp only [List.flatMap_cons, List.length_append, h1, h2, stUp, stDn, List.getElem?_eq_getElem hs, e.1, e.2, List.length_cons]
    omega
theorem Ones.app {a b : List Nat} (ha : Ones a) (hb : Ones b) : Ones (a ++ b) := fun x hx => by
  rcases List.mem_append.1 hx with h | h
  · exact ha x h
  · exact hb x h
theorem pUp_ones {st : St} {bs : List Br} {l : List (Nat × Bool)} (hok : ∀ b ∈ bs, brE st b = 0) : Ones (pUp st bs l) ∧ Ones (pDn st bs l) := by
  induction l with
  | nil => exact ⟨Ones.nil, Ones.nil⟩
  | cons s l ih =>
    have e1 : pUp st bs (s :: l) = stUp st bs s ++ pUp st bs l := rfl
    have e2 : pDn st bs (s :: l) = stDn st bs s ++ pDn st bs l := rfl
    rw [e1, e2]
    unfold stUp stDn
    cases hb : bs[s.1]? with
    | none => exact ⟨Ones.app Ones.nil ih.1, Ones.app Ones.nil ih.2⟩
    | some b =>
      obtain ⟨o1, o2⟩ := br_ones (hok b (List.mem_of_getElem? hb)) s.2
      exact ⟨Ones.app o1 ih.1, Ones.app o2 ih.2⟩
theorem pUp_val {st : St} {bs : List Br} {l : List (Nat × Bool)} (hok : ∀ b ∈ bs, brE st b = 0) (h : ∀ s ∈ l, s.1 < bs.length) : val (pUp st bs l) (pDn st bs l) = pathQ (bs.map (edOf st)) l := by
  induction l with
  | nil => unfold pUp pDn pathQ; simp [val, prodN]; grind
  | cons s l ih =>
    have hs := h s (by simp)
    have hz := hok _ (List.getElem_mem hs)
    have e1 : pUp st bs (s :: l) = stUp st bs s ++ pUp st bs l := rfl
    have e2 : pDn st bs (s :: l) = stDn st bs s ++ pDn st bs l := rfl
    have o := br_ones hz s.2
    have o2 := (pUp_ones (l := l) hok).2
    have hu : stUp st bs s = brUp st bs[s.1] s.2 := by simp [stUp, hs]
    have hd : stDn st bs s = brDn st bs[s.1] s.2 := by simp [stDn, hs]
    rw [e1, e2, hu, hd, val_append o.2 o2, br_val hz, ih (fun x hx => h x (by simp [hx]))]
    have : edQ (bs.map (edOf st)) s = if s.2 then (brOwn st bs[s.1])⁻¹ else brOwn st bs[s.1] := by
      simp [edQ, hs, edOf]
    rw [← this]
    rfl

/-- The cells of a slice that is known. -/
theorem Sl.cells2 {w : World} {n c : Nat} {b o : Nat} {xs : List Value} (h : Sl w 2 (.slice (some ⟨b, o, none⟩) n c) xs) (hn : 0 < n) : ∀ j u, xs[j]? = some u → w.cell? ⟨b, o + j, none⟩ = some u := by
  obtain ⟨A', n', c', e, _, _, _, h1⟩ := h.open2 (by decide)
  cases e
  obtain ⟨b', o', e, _, h2⟩ := h1 hn
  cases e
  exact h2

set_option maxRecDepth 100000 in
set_option maxHeartbeats 2000000 in
theorem falong_any (Bk : Nat) (lv bv : Value) (st : St) (bs : List Br) (l : List (Nat × Bool)) (v : Value) (base Bf : Nat) (neg : Bool) (U D : List Nat) (w0 w : World) (h : RBk w0 Bk lv bv st.ls bs) (h0 : Below w0.heap.size w0 w) (hle : w0.heap.size ≤ base) (hg : Good st) (hok : ∀ b ∈ bs, brE st b = 0)
    (hF : FrQ w base Bf neg U D) (_hbase : base ≤ w.heap.size) (hv : SlT w 169 2 v (stepsV l)) (hl : ∀ s ∈ l, s.1 < bs.length) (lU : U.length ≤ 100000) (lD : D.length ≤ 100000) (hll : l.length ≤ 1000) :
    Calls Tryd.prog 112 #[.pointer (some ⟨Bk, 0, none⟩), .pointer (some ⟨Bf, 0, none⟩), v] w fun e w' => e = .returned (.tuple #[]) ∧ FrQ w' base Bf neg (U ++ pUp st bs l) (D ++ pDn st bs l) ∧ KeptT w w' ∧ Below base w w' := by
  obtain ⟨A, n, c, rfl, hm, hmc, hcm, hcl⟩ := hv.1.open2 (by decide)
  rw [stepsV_length] at hm
  obtain rfl : n = l.length := by omega
  obtain ⟨BA, n', bc, rfl, hm', hmc', hcm', hbk⟩ := h.brs.open2 (by decide)
  obtain rfl : n' = bs.length := by rw [brsV_length] at hm'; omega
  have hBw := hF
  obtain ⟨_, _, hC, hlt, _⟩ := hBw
  have hBl := hC.lt
  have HR := Lib.hid h
  have HG := Lib.hid hg
  have HOK := Lib.hid hok
  have HV := Lib.hid hv
  have HL := Lib.hid hl
  have HBK := Lib.hid hbk
  have HCL := Lib.hid hcl
  have HF0 := Lib.hid hF
  have H0 := Lib.hid h0
  clear h hg hok hv hl hbk hcl hF hC hm hm' h0
  go_enter Tryd.func112, Tryd.ntmps112
  go_wp2
  go_loopw [6] (fun i wr => ∃ k : Nat, i = .int .i64 k ∧ k ≤ l.length ∧ Hid (FrQ wr base Bf neg (U ++ pUp st bs (l.take k)) (D ++ pDn st bs (l.take k))) ∧ Hid (KeptT w wr) ∧ Hid (Below base w wr)) (fun i _ => l.length - (intOf i).toNat)
  case atStart => exact ⟨0, rfl, by omega, (show FrQ w base Bf neg (U ++ pUp st bs (l.take 0)) (D ++ pDn st bs (l.take 0)) by rw [show l.take 0 = [] from rfl]; simpa [pUp, pDn] using HF0.out), KeptT.refl w, Below.refl _ _⟩
  case round =>
    obtain ⟨k, rfl, hk, HF, HK, HB⟩ := hrel
    by_cases hlt' : k < l.length
    · obtain ⟨sb, so, e, _, _⟩ := HCL.out (by omega)
      subst e
      have hs := HL.out l[k] (List.getElem_mem hlt')
      obtain ⟨bb, bo, e, _, hce⟩ := HBK.out (by omega)
      subst e
      have HSN := Lib.hid (pUp_snoc (st := st) hlt' hs)
      have HLE := Lib.hid (pUp_len (st := st) (bs := bs) (l := l.take k) (fun s hs => HL.out s (List.mem_of_mem_take hs)))
      have HZ := Lib.hid (HOK.out _ (List.getElem_mem hs))
      have hE0 : Hid (∀ w', Below base w w' → Below w0.heap.size w0 w') := fun w' hb => H0.out.trans (hb.mono hle)
      have HCE : Hid (∀ w', Below w0.heap.size w0 w' → ∀ t (ht : t < 6) u, (brV bs[l[k].1])[t]? = some u → w'.cell? ⟨bb, bo + (l[k].1 * 6 + t), none⟩ = some u) := fun w' hb t ht u hu => below_cell hb (hce _ _ (by rw [brsV_get hs t ht]; exact hu))
      have HCS : Hid (∀ w', KeptT w w' → w'.cell? ⟨sb, so + k * 2, none⟩ = some (.int .i64 (l[k].1 : Int)) ∧ w'.cell? ⟨sb, so + (k * 2 + 1), none⟩ = some (.bool l[k].2)) := fun w' hk => by
        have h1 := (hk.sl HV.out (by decide) (by decide)).1.cells2 (by omega)
        exact ⟨h1 _ _ (stepsV_get hlt').1, h1 _ _ (stepsV_get hlt').2⟩
      have HBR := Lib.hid (fun w' (b1 : Below w0.heap.size w0 w') (b2 : FrQ w' base Bf neg (U ++ pUp st bs (l.take k)) (D ++ pDn st bs (l.take k))) (b3 : base ≤ w'.heap.size) => rbridge_any Bk _ _ st bs bs[l[k].1] l[k].2 base Bf neg _ _ w' (HR.out.below b1) HG.out HZ.out b2 b3 (by have := HLE.out.1; simp at *; omega) (by have := HLE.out.2; simp at *; omega))
      have k1 : (0 : Int) ≤ (k : Int) := by omega
      have k2 : (k : Int) < (l.length : Int) := by omega
      generalize hbr : bs[l[k].1] = br at *
      obtain ⟨s1, hs1⟩ : ∃ s1, l[k].1 = s1 := ⟨_, rfl⟩
      obtain ⟨s2, hs2⟩ : ∃ s2, l[k].2 = s2 := ⟨_, rfl⟩
      rw [hs1] at hs HCE HCS
      rw [hs2] at HCS HBR HSN
      clear hbr hs1 hs2 hce
      have k3 : (0 : Int) ≤ (s1 : Int) := by omega
      have k4 : (s1 : Int) < (bs.length : Int) := by omega
      have HEX : Hid (∀ w', Below base w w' → KeptT w w' → w'.cell? ⟨Bk, 1, none⟩ = some (.slice (some ⟨bb, bo, none⟩) bs.length bc) ∧ w'.cell? ⟨sb, so + k * 2, none⟩ = some (.int .i64 (s1 : Int)) ∧ w'.cell? ⟨sb, so + k * 2 + 1, none⟩ = some (.bool s2) ∧
          w'.cell? ⟨bb, bo + s1 * 6, none⟩ = some (.string br.A) ∧ w'.cell? ⟨bb, bo + s1 * 6 + 1, none⟩ = some (.string br.SA) ∧ w'.cell? ⟨bb, bo + s1 * 6 + 2, none⟩ = some (.string br.B) ∧ w'.cell? ⟨bb, bo + s1 * 6 + 3, none⟩ = some (.string br.SB) ∧ w'.cell? ⟨bb, bo + s1 * 6 + 4, none⟩ = some (.int .i64 br.N) ∧ w'.cell? ⟨bb, bo + s1 * 6 + 5, none⟩ = some (.int .i64 br.D)) := fun w' hb hk => by
        have hb0 := hE0.out w' hb
        have g := HCE.out w' hb0
        have g0 := g 0 (by decide) _ rfl
        have g1 := g 1 (by decide) _ rfl
        have g2 := g 2 (by decide) _ rfl
        have g3 := g 3 (by decide) _ rfl
        have g4 := g 4 (by decide) _ rfl
        have g5 := g 5 (by decide) _ rfl
        simp only [← Nat.add_assoc, Nat.add_zero] at g0 g1 g2 g3 g4 g5
        obtain ⟨c1, c2⟩ := HCS.out w' hk
        rw [← Nat.add_assoc] at c2
        exact ⟨(HR.out.below hb0).blk.cell 1 _ rfl, c1, c2, g0, g1, g2, g3, g4, g5⟩
      obtain ⟨x0, x1, x2, x3, x4, x5, x6, x7, x8⟩ := HEX.out wr HB.out HK.out
      have HKD : Hid (KeptT wr wr.drew) := KeptT.below (below_drew (Below.refl _ _))
      have hbz := HB.out.size
      have HBS := Lib.hid (show base ≤ wr.drew.heap.size by show base ≤ wr.heap.size; omega)
      go_wp2_with fail
      go_region_held3 (fun w' => w'.cell? ⟨Bk, 1, none⟩ = some (.slice (some ⟨bb, bo, none⟩) bs.length bc) ∧ w'.cell? ⟨sb, so + k * 2, none⟩ = some (.int .i64 (s1 : Int)) ∧ w'.cell? ⟨sb, so + k * 2 + 1, none⟩ = some (.bool s2) ∧
          w'.cell? ⟨bb, bo + s1 * 6, none⟩ = some (.string br.A) ∧ w'.cell? ⟨bb, bo + s1 * 6 + 1, none⟩ = some (.string br.SA) ∧ w'.cell? ⟨bb, bo + s1 * 6 + 2, none⟩ = some (.string br.B) ∧ w'.cell? ⟨bb, bo + s1 * 6 + 3, none⟩ = some (.string br.SB) ∧ w'.cell? ⟨bb, bo + s1 * 6 + 4, none⟩ = some (.int .i64 br.N) ∧ w'.cell? ⟨bb, bo + s1 * 6 + 5, none⟩ = some (.int .i64 br.D))
        (first | exact ⟨f0, f1, f2, f3, f4, f5, f6, f7, f8⟩ | exact ⟨x0, x1, x2, x3, x4, x5, x6, x7, x8⟩ | go_keep)
        ((go_at_call 127; refine (HBR.out wr.drew (hE0.out _ (below_drew HB.out)) (show FrQ wr.drew _ _ _ _ _ from HF.out) HBS.out).mono ?_; rintro e w1 ⟨rfl, hF1, hK1, hB1⟩; have HF1 := Lib.hid hF1; have HK1 := Lib.hid ((HK.out.trans HKD.out).trans hK1); have HB1 := Lib.hid ((below_drew HB.out).trans hB1); clear hF1 hK1 hB1; obtain ⟨f0, f1, f2, f3, f4, f5, f6, f7, f8⟩ := HEX.out w1 HB1.out HK1.out))
      go_wp2
      go_roundw
      case rel =>
        exact ⟨k + 1, by go_num, hlt', (show FrQ w1 base Bf neg (U ++ pUp st bs (l.take (k + 1))) (D ++ pDn st bs (l.take (k + 1))) by rw [HSN.out.1, HSN.out.2, ← List.append_assoc, ← List.append_assoc]; exact HF1.out), HK1.out, HB1.out⟩
      case measure => simp [intOf]; omega
    · have HT := Lib.hid (show l.take k = l from List.take_of_length_le (by omega))
      go_wp2
      go_end0
      exact ⟨rfl, by rw [← HT.out]; exact HF.out, HK.out, HB.out⟩
end Go.Proofs.YtmibpncmebhbjaaDoor
