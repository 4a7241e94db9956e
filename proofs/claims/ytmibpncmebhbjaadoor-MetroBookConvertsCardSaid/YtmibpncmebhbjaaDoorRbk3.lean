/- The reference's fractions along bridges: one, bridge. -/
import Derived.Test.YtmibpncmebhbjaaDoorRbk1
import Derived.Test.YtmibpncmebhbjaaDoorFrac2
import Derived.Test.YtmibpncmebhbjaaDoorFrq1
import Derived.Deep.DeepCutAuto
namespace Go.Proofs.YtmibpncmebhbjaaDoor
open Go Go.RowKit Go.Shelf
attribute [local go_sem] Oper.semAt_some

theorem strike_nil {l : List Nat} : strike l = [] ↔ ∀ x ∈ l, x = 1 := by
  unfold strike
  rw [List.filter_eq_nil_iff]
  simp
theorem one_yes {U D U' D' : List Nat} (h : Red (strike U') (strike D') (val U D)) (hu : ∀ x ∈ U', x = 1) (hd : ∀ x ∈ D', x = 1) : val U D = 1 := h.one_iff.2 ⟨strike_nil.2 hu, strike_nil.2 hd⟩
theorem one_noU {U D U' D' : List Nat} (h : Red (strike U') (strike D') (val U D)) {k : Nat} (hk : k < U'.length) (hu : U'[k] ≠ 1) : ¬ val U D = 1 := fun e => hu (strike_nil.1 (h.one_iff.1 e).1 _ (List.getElem_mem hk))
theorem one_noD {U D U' D' : List Nat} (h : Red (strike U') (strike D') (val U D)) {k : Nat} (hk : k < D'.length) (hu : D'[k] ≠ 1) : ¬ val U D = 1 := fun e => hu (strike_nil.1 (h.one_iff.1 e).2 _ (List.getElem_mem hk))

set_option maxRecDepth 100000 in
set_option maxHeartbeats 1000000 in
theorem fone_any (base Bf : Nat) (neg : Bool) (U D : List Nat) (w : World) (h : FrQ w base Bf neg U D) (hU : Ones U) (hD : Ones D) (hl : U.length = D.length) :
    Calls Tryd.prog 128 #[.pointer (some ⟨Bf, 0, none⟩)] w fun e w' => e = .returned (.bool (decide (val U D = 1) && !neg)) ∧ Below base w w' := by
  have HC := Lib.hid (cancelQ_any base Bf neg U D w h hU hD)
  clear h hU hD
  go_enter Tryd.func128, Tryd.ntmps128
  go_wp2_with fail
  go_fit HC.out
  rintro e w1 ⟨rfl, U', D', h1, hl1, hl2, o1, o2, hr, hb1, hk⟩
  obtain ⟨sN, sD, hC, hlt, g1, g2, _⟩ := h1
  obtain ⟨A3, c3, rfl, hc3, hm3, _⟩ := own_slice g1
  obtain ⟨A4, c4, rfl, hc4, hm4, _⟩ := own_slice g2
  have q0 := hC.cell 0 _ rfl
  have q1 := hC.cell 1 _ rfl
  have q2 := hC.cell 2 _ rfl
  have hll : U'.length = D'.length := by omega
  obtain ⟨_, _, e1, _, _, k1⟩ := (Sl.of_own g1).open1
  obtain ⟨_, _, e2, _, _, k2⟩ := (Sl.of_own g2).open1
  simp only [u64s_length] at e1 e2
  cases e1
  cases e2
  have K1 := Lib.hid k1
  have K2 := Lib.hid k2
  have HR := Lib.hid hr
  have HL := Lib.hid hll
  have HB := Lib.hid hb1
  rw [← hll] at q2 hc4
  obtain ⟨n, hn⟩ : ∃ n, U'.length = n := ⟨_, rfl⟩
  rw [hn] at q1 q2 hc3 hc4
  have HN := Lib.hid hn
  clear HC k1 k2 hr hk hb1 g1 g2 hC hn hl hl1 hl2 hll
  go_wp2
  go_loop [3] (fun i => ∃ k : Nat, i = .int .i64 k ∧ k ≤ n ∧ Hid ((∀ j (h : j < U'.length), j < k → U'[j] = 1) ∧ (∀ j (h : j < D'.length), j < k → D'[j] = 1))) (fun i => n - (intOf i).toNat)
  case atStart => exact ⟨0, rfl, by omega, fun j _ h => by omega, fun j _ h => by omega⟩
  case round =>
    obtain ⟨k, rfl, hk, HA⟩ := hrel
    by_cases hlt : k < n
    · have hkU : k < U'.length := by rw [HN.out]; exact hlt
      have hkD : k < D'.length := by rw [← HL.out, HN.out]; exact hlt
      obtain ⟨a3, rfl, e1⟩ := K1.out k _ (u64s_get hkU)
      obtain ⟨a4, rfl, e2⟩ := K2.out k _ (u64s_get hkD)
      have HU : Hid (U'[k] ≠ 1 → ¬ val U D = 1) := fun h => one_noU HR.out hkU h
      have HD : Hid (D'[k] ≠ 1 → ¬ val U D = 1) := fun h => one_noD HR.out hkD h
      have HS : Hid (U'[k] = 1 → D'[k] = 1 → (∀ j (h : j < U'.length), j < k + 1 → U'[j] = 1) ∧ (∀ j (h : j < D'.length), j < k + 1 → D'[j] = 1)) := fun h1 h2 =>
        ⟨fun j hj hjk => by
          by_cases e : j = k
          · subst e; exact h1
          · exact HA.out.1 j hj (by omega), fun j hj hjk => by
          by_cases e : j = k
          · subst e; exact h2
          · exact HA.out.2 j hj (by omega)⟩
      generalize U'[k] = x at *
      generalize D'[k] = y at *
      clear hkU hkD
      by_cases hx : x = 1
      · have b1 : ((x : Int) != 1) = false := by simp [hx]
        by_cases hy : y = 1
        · have b2 : ((y : Int) != 1) = false := by simp [hy]
          have HSS := Lib.hid (HS.out hx hy)
          clear hx hy
          go_wp2
          go_round
          case rel => exact ⟨k + 1, by go_num, hlt, HSS.out⟩
          case measure => simp [intOf]; omega
        · have b2 : ((y : Int) != 1) = true := by simp; omega
          have HF := Lib.hid (HD.out hy)
          clear hx hy
          go_wp2
          go_ret
          exact ⟨by rw [decide_eq_false HF.out]; rfl, HB.out⟩
      · have b1 : ((x : Int) != 1) = true := by simp; omega
        have HF := Lib.hid (HU.out hx)
        clear hx
        go_wp2
        go_ret
        exact ⟨by rw [decide_eq_false HF.out]; rfl, HB.out⟩
    · have HV := Lib.hid (show val U D = 1 from one_yes HR.out (fun x hx => by
        obtain ⟨j, hj, rfl⟩ := List.mem_iff_getElem.1 hx
        exact HA.out.1 j hj (by rw [HN.out] at hj; omega)) (fun x hx => by
        obtain ⟨j, hj, rfl⟩ := List.mem_iff_getElem.1 hx
        exact HA.out.2 j hj (by rw [← HL.out, HN.out] at hj; omega)))
      go_wp2
      go_ret
      exact ⟨by rw [decide_eq_true HV.out]; simp, HB.out⟩

/-- Blocks of other types than uint64 and Fraction are as they were. -/
def KeptT (w w' : World) : Prop := ∀ b t vs, Cel w b t vs → t ≠ 117 → t ≠ 150 → Cel w' b t vs
theorem KeptT.refl (w : World) : KeptT w w := fun _ _ _ h _ _ => h
theorem KeptT.below {w w' : World} (h : Below w.heap.size w w') : KeptT w w' := fun _ _ _ hc _ _ => hc.below hc.lt h
theorem KeptT.trans {a b c : World} (h : KeptT a b) (k : KeptT b c) : KeptT a c := fun x t vs hc h1 h2 => k x t vs (h x t vs hc h1 h2) h1 h2
theorem KeptT.sl {w w' : World} (h : KeptT w w') {t : TypeId} {s : Nat} {v : Value} {xs : List Value} (hs : SlT w t s v xs) (h1 : t ≠ 117) (h2 : t ≠ 150) : SlT w' t s v xs := by
  obtain ⟨a1, a2⟩ := hs
  refine ⟨?_, fun A n c e hn => ?_⟩
  · obtain ⟨A, n, c, rfl, hl, hc, hm, hcell⟩ := a1
    refine ⟨A, n, c, rfl, hl, hc, hm, fun hn => ?_⟩
    obtain ⟨ad, e, hce⟩ := hcell hn
    obtain ⟨b, o, C', hA, hh⟩ := a2 A n c rfl hn
    rw [e] at hA; cases hA
    refine ⟨_, e, fun j u hu => ?_⟩
    rw [← hce j u hu, add_plain]
    simp only [World.cell?, show w'.heap[b]? = w.heap[b]? from (h b t C' hh h1 h2).trans hh.symm]
  · obtain ⟨b, o, C', hA, hh⟩ := a2 A n c e hn
    exact ⟨b, o, C', hA, h b t C' hh h1 h2⟩
/-- A fraction, its two rows named. -/
structure FrP (w : World) (base Bf : Nat) (neg : Bool) (sN sD : Value) (U D : List Nat) : Prop where
  blk : Cel w Bf 150 #[.bool neg, sN, sD]
  lt : base ≤ Bf
  up : w.ownsRow base 117 1 sN U.length (u64s U)
  dn : w.ownsRow base 117 1 sD D.length (u64s D)
  dis : ∀ g, sN.ownBlock = some g → sD.ownBlock ≠ some g
theorem FrP.fro {w : World} {base Bf : Nat} {neg : Bool} {sN sD : Value} {U D : List Nat} (h : FrP w base Bf neg sN sD U D) : FrQ w base Bf neg U D := ⟨sN, sD, h.blk, h.lt, h.up, h.dn, h.dis⟩
theorem FrQ.frp {w : World} {base Bf : Nat} {neg : Bool} {U D : List Nat} (h : FrQ w base Bf neg U D) : ∃ sN sD, FrP w base Bf neg sN sD U D := by
  obtain ⟨sN, sD, h1, h2, h3, h4, h5⟩ := h
  exact ⟨sN, sD, h1, h2, h3, h4, h5⟩
theorem FrP.below {w w' : World} {base Bf : Nat} {neg : Bool} {sN sD : Value} {U D : List Nat} (h : FrP w base Bf neg sN sD U D) (hb : Below w.heap.size w w') : FrP w' base Bf neg sN sD U D :=
  ⟨h.blk.below h.blk.lt hb, h.lt, own_below h.up hb, own_below h.dn hb, h.dis⟩
section
variable {w w' : World} {base Bf : Nat} {neg : Bool} {sN sD : Value} {U D u : List Nat}
/-- An append onto the numerators, stored. -/
theorem fr_addN (hP : FrP w base Bf neg sN sD U D) (hbase : base ≤ w.heap.size)
    {A : Option Addr} {N c : Nat} (ha : Appended base 117 1 sN (u64s U) (u64s u) w w' A N c) (hN : N = U.length + u.length) :
    FrP (w'.setCell ⟨Bf, 1, none⟩ (.slice A N c)) base Bf neg (.slice A N c) sD (U ++ u) D ∧ KeptT w (w'.setCell ⟨Bf, 1, none⟩ (.slice A N c)) ∧ Below base w (w'.setCell ⟨Bf, 1, none⟩ (.slice A N c)) := by
  obtain ⟨hC, hlt, h1, h2, hdis⟩ := hP
  have hBf : sN.ownBlock ≠ some Bf := own_notF h1 hC
  have hX := hC.kept ha.grown (fun e => hBf e.symm)
  have hD := own_keep h2 ha.grown (fun g hg he => hdis g he hg)
  have hnb : (Value.slice A N c).ownBlock ≠ some Bf := own_notF ha.own hX
  have hdb : sD.ownBlock ≠ some Bf := own_notF h2 hC
  refine ⟨⟨by simpa using hX.setAt 1 (.slice A N c), hlt, ?_, own_ne hD (p := ⟨Bf, 1, none⟩) hdb _, fun g hg => ?_⟩, fun b t vs hc t1 t2 => ?_, ?_⟩
  · have := own_ne ha.own (p := ⟨Bf, 1, none⟩) hnb (.slice A N c)
    rw [← u64s_append] at this
    have e : (U ++ u).length = N := by rw [List.length_append, hN]
    rw [e]; exact this
  · rcases ha.block with e | e
    · rw [e] at hg; exact hdis g hg
    · rw [e] at hg
      injection hg with hg
      intro e'
      have := own_lt h2 e'
      omega
  · have hb1 : some b ≠ sN.ownBlock := fun e => by
      obtain ⟨C, hC'⟩ := own_typed h1 e.symm
      rw [show w.heap[b]? = _ from hc] at hC'
      cases hC'; exact t1 rfl
    have hne : b ≠ Bf := fun e => by
      subst e
      have hc' : w.heap[b]? = _ := hc
      rw [show w.heap[b]? = _ from hC] at hc'
      cases hc'; exact t2 rfl
    exact (hc.kept ha.grown hb1).other (p := ⟨Bf, 1, none⟩) (fun e => hne e.symm) _
  · exact ((Below.refl base w).grown ha.grown hbase (fun g hg => own_ge h1 hg)).setCell (p := ⟨Bf, 1, none⟩) hlt _
/-- An append onto the denominators, stored. -/
theorem fr_addD (hP : FrP w base Bf neg sN sD U D) (hbase : base ≤ w.heap.size)
    {A : Option Addr} {N c : Nat} (ha : Appended base 117 1 sD (u64s D) (u64s u) w w' A N c) (hN : N = D.length + u.length) :
    FrP (w'.setCell ⟨Bf, 2, none⟩ (.slice A N c)) base Bf neg sN (.slice A N c) U (D ++ u) ∧ KeptT w (w'.setCell ⟨Bf, 2, none⟩ (.slice A N c)) ∧ Below base w (w'.setCell ⟨Bf, 2, none⟩ (.slice A N c)) := by
  obtain ⟨hC, hlt, h1, h2, hdis⟩ := hP
  have hBf : sD.ownBlock ≠ some Bf := own_notF h2 hC
  have hX := hC.kept ha.grown (fun e => hBf e.symm)
  have hD := own_keep h1 ha.grown (fun g hg => hdis g hg)
  have hnb : (Value.slice A N c).ownBlock ≠ some Bf := own_notF ha.own hX
  have hdb : sN.ownBlock ≠ some Bf := own_notF h1 hC
  refine ⟨⟨by simpa using hX.setAt 2 (.slice A N c), hlt, own_ne hD (p := ⟨Bf, 2, none⟩) hdb _, ?_, fun g hg e' => ?_⟩, fun b t vs hc t1 t2 => ?_, ?_⟩
  · have := own_ne ha.own (p := ⟨Bf, 2, none⟩) hnb (.slice A N c)
    rw [← u64s_append] at this
    have e : (D ++ u).length = N := by rw [List.length_append, hN]
    rw [e]; exact this
  · rcases ha.block with e | e
    · rw [e] at e'; exact hdis g hg e'
    · rw [e] at e'
      injection e' with e'
      have := own_lt h1 hg
      omega
  · have hb1 : some b ≠ sD.ownBlock := fun e => by
      obtain ⟨C, hC'⟩ := own_typed h2 e.symm
      rw [show w.heap[b]? = _ from hc] at hC'
      cases hC'; exact t1 rfl
    have hne : b ≠ Bf := fun e => by
      subst e
      have hc' : w.heap[b]? = _ := hc
      rw [show w.heap[b]? = _ from hC] at hc'
      cases hc'; exact t2 rfl
    exact (hc.kept ha.grown hb1).other (p := ⟨Bf, 2, none⟩) (fun e => hne e.symm) _
  · exact ((Below.refl base w).grown ha.grown hbase (fun g hg => own_ge h2 hg)).setCell (p := ⟨Bf, 2, none⟩) hlt _
end
end Go.Proofs.YtmibpncmebhbjaaDoor
