/- Fractions of the reference: product and cancel. -/
import Derived.Test.YtmibpncmebhbjaaDoorP3
import Derived.Deep.QuietTactic
import Derived.BigQuiet
namespace Go.Proofs.YtmibpncmebhbjaaDoor
open Go Go.RowKit Go.Shelf
attribute [local go_sem] Oper.semAt_some

theorem wrap_div2 (x g : Nat) (hx : x < 18446744073709551616) : IntKind.u64.wrap ((x : Int) / (g : Int)) = ((x / g : Nat) : Int) := wrap_div x g hx
theorem wrap_mul2 (x g : Nat) (hx : x * g < 18446744073709551616) : IntKind.u64.wrap ((x : Int) * (g : Int)) = ((x * g : Nat) : Int) := by
  rw [IntKind.wrap_u64]
  have : (x : Int) * (g : Int) = ((x * g : Nat) : Int) := by simp
  omega

set_option maxRecDepth 100000 in
set_option maxHeartbeats 1000000 in
theorem rproduct_any (v : Value) (l : List Nat) (most : Nat) (w : World) (hv : Sl w 1 v (u64s l)) (ho : Ones l) (hm0 : 1 ≤ most) (hm : most < 18446744073709551616) :
    Calls Tryd.prog 131 #[v, .int .u64 most] w fun e w' => WithinPost l most e ∧ ∃ n, w' = w.drewN n := by
  obtain ⟨A, c, rfl, hlc, hcm, hcell⟩ := hv.open1
  simp only [u64s_length] at hlc ⊢
  have HC := Lib.hid hcell
  have HO := Lib.hid ho
  clear hcell hv ho
  go_enter Tryd.func131, Tryd.ntmps131
  go_wp2
  go_loopw [6, 7] (fun p i wr => ∃ (k n : Nat), k ≤ l.length ∧ i = .int .i64 k ∧ p = .int .u64 (prodN (l.take k)) ∧ prodN (l.take k) ≤ most ∧ wr = w.drewN n) (fun _ i _ => l.length - (intOf i).toNat)
  case atStart => exact ⟨0, 0, by omega, rfl, rfl, by simpa [prodN] using hm0, rfl⟩
  case round =>
    obtain ⟨k, n, hk, rfl, rfl, hp, rfl⟩ := hrel
    by_cases hlt : k < l.length
    · obtain ⟨ad, rfl, hcell0⟩ := HC.out k _ (u64s_get hlt)
      have hx := HO.out.get hlt
      have hx2 := hx.2
      have hp1 : 1 ≤ prodN (l.take k) := prodN_pos (fun x hx => (HO.out x (List.mem_of_mem_take hx)).1)
      have HS := Lib.hid (prodN_take l k hlt)
      have HT := Lib.hid (prodN_take_le HO.out (k + 1))
      have hk1 : (0 : Int) ≤ (k : Int) := by omega
      have hk2 : (k : Int) < (l.length : Int) := by omega
      have hpm : prodN (l.take k) < 18446744073709551616 := by omega
      generalize hpe : prodN (l.take k) = p at *
      clear hpe
      generalize l[k] = x at *
      have wd := wrap_div2 most p hm
      have hp0 : ((p : Int) == 0) = false := by rw [beq_eq_false_iff_ne]; omega
      by_cases hle : x ≤ most / p
      · have hle' : p * x ≤ most := by
          have := Nat.mul_le_mul_left p hle
          have := Nat.mul_div_le most p
          omega
        have d1 : decide ((most : Int) / (p : Int) < (x : Int)) = false := decide_eq_false (by rw [← Int.natCast_ediv]; omega)
        have wm := wrap_mul2 p x (by omega)
        have HLE := Lib.hid hle'
        clear hle hle'
        go_wp2_with fail
        go_quiet (fail)
        go_wp2
        go_roundw
        case rel => exact ⟨k + 1, n + nq, by omega, by go_num, by rw [HS.out]; simp, by rw [HS.out]; exact HLE.out, by first | rfl | rw [World.drewN_drewN]⟩
        case measure => simp [intOf]; omega
      · have HN : Hid (¬ prodN l ≤ most) := Lib.hid (fun h => hle (by
          have h1 := HS.out
          have h2 : p * x ≤ most := by rw [← h1]; exact Nat.le_trans HT.out h
          rw [Nat.le_div_iff_mul_le (by omega)]
          rwa [Nat.mul_comm]))
        have d1 : decide ((most : Int) / (p : Int) < (x : Int)) = true := decide_eq_true (by rw [← Int.natCast_ediv]; omega)
        clear hle
        go_wp2_with fail
        go_quiet (fail)
        go_wp2
        go_ret2
        exact ⟨.inr ⟨HN.out, rfl⟩, n + nq, by first | rfl | rw [World.drewN_drewN]⟩
    · have HT := Lib.hid (show l.take k = l from List.take_of_length_le (by omega))
      go_wp2
      go_ret2
      exact ⟨.inl ⟨by rw [← HT.out]; exact hp, by rw [HT.out]; rfl⟩, _, rfl⟩

/-- A fraction in memory: its box Bf lies below base, its rows are the call's own, from base on, in two blocks. -/
def FrO (w : World) (base Bf : Nat) (neg : Bool) (U D : List Nat) : Prop :=
  ∃ sN sD, Cel w Bf 150 #[.bool neg, sN, sD] ∧ Bf < base ∧ w.ownsRow base 117 1 sN U.length (u64s U) ∧ w.ownsRow base 117 1 sD D.length (u64s D) ∧ (∀ g, sN.ownBlock = some g → sD.ownBlock ≠ some g)
theorem FrO.below {w w' : World} {base Bf : Nat} {neg : Bool} {U D : List Nat} (h : FrO w base Bf neg U D) (hb : Below w.heap.size w w') : FrO w' base Bf neg U D := by
  obtain ⟨sN, sD, h1, h2, h3, h4, h5⟩ := h
  exact ⟨sN, sD, h1.below h1.lt hb, h2, own_below h3 hb, own_below h4 hb, h5⟩
/-- Blocks of other types than uint64 are as they were. -/
def KeptU (w w' : World) : Prop := ∀ b t vs, Cel w b t vs → t ≠ 117 → Cel w' b t vs
theorem KeptU.refl (w : World) : KeptU w w := fun _ _ _ h _ => h
theorem KeptU.below {w w' : World} (h : Below w.heap.size w w') : KeptU w w' := fun _ _ _ hc _ => hc.below hc.lt h
theorem KeptU.trans {a b c : World} (h : KeptU a b) (k : KeptU b c) : KeptU a c := fun x t vs hc ht => k x t vs (h x t vs hc ht) ht
theorem KeptU.set {w w' : World} {base n cap g : Nat} {xs : List Value} (h : KeptU w w') (ho : w'.ownsRow base 117 1 (.slice (some ⟨g, 0, none⟩) n cap) n xs) (k : Nat) (x : Value) : KeptU w (w'.setCell ⟨g, k, none⟩ x) := fun b t vs hc ht =>
  (h b t vs hc ht).other (by rintro rfl; exact own_not_box ho (h _ t vs hc ht) (fun e => ht e.symm)) x
def CancPost (U D : List Nat) (base Bf : Nat) (neg : Bool) (w : World) (e : Ending) (w' : World) : Prop :=
  e = .returned (.tuple #[]) ∧ ∃ U' D', FrO w' base Bf neg U' D' ∧ U'.length = U.length ∧ D'.length = D.length ∧ Ones U' ∧ Ones D' ∧ Red (strike U') (strike D') (val U D) ∧ Below base w w' ∧ KeptU w w'

set_option maxRecDepth 100000 in
set_option maxHeartbeats 1000000 in
theorem cancel_any (base Bf : Nat) (neg : Bool) (U D : List Nat) (w : World) (h : FrO w base Bf neg U D) (hU : Ones U) (hD : Ones D) :
    Calls Tryd.prog 130 #[.pointer (some ⟨Bf, 0, none⟩)] w (CancPost U D base Bf neg w) := by
  obtain ⟨sN, sD, hC, hB, h1, h2, hdis⟩ := h
  obtain ⟨A3, c3, rfl, hc3, hm3, f3⟩ := own_slice h1
  obtain ⟨A4, c4, rfl, hc4, hm4, f4⟩ := own_slice h2
  have q1 := hC.cell 1 _ rfl
  have q2 := hC.cell 2 _ rfl
  have hst := Canc.start hU hD
  have hlw := hC.lt
  have hne : ∀ g g', A3 = some ⟨g, 0, none⟩ → A4 = some ⟨g', 0, none⟩ → g ≠ g' := by
    intro g g' e3 e4 e
    subst e3; subst e4; subst e
    exact hdis g rfl rfl
  have HDIS := Lib.hid hdis
  clear hdis
  go_enter Tryd.func130, Tryd.ntmps130
  go_wp2
  go_quiet (fail)
  have hq1 : (w.drewN nq).cell? ⟨Bf, 1, none⟩ = w.cell? ⟨Bf, 1, none⟩ := by simp
  have h1' := own_drewN h1 nq
  have h2' := own_drewN h2 nq
  have hC' : Cel (w.drewN nq) Bf 150 #[.bool neg, .slice A3 U.length c3, .slice A4 D.length c4] := hC.below hC.lt (below_drewN' w nq)
  have hb0 : Below base w (w.drewN nq) := below_drewN (Below.refl _ _) nq
  have hku : Hid (KeptU w (w.drewN nq)) := KeptU.below (below_drewN' w nq)
  have hsz : (w.drewN nq).heap.size = w.heap.size := by simp
  clear q1 q2 hq1 h1 h2 hC
  obtain ⟨V, hV⟩ : ∃ V, w.drewN nq = V := ⟨_, rfl⟩
  rw [hV] at h1' h2' hC' hb0 hku ⊢
  clear hV hsz
  go_wp2
  go_loopw [4] (fun i wr => ∃ (k : Nat) (U' D' : List Nat), k ≤ U.length ∧ i = .int .i64 k ∧ wr.ownsRow base 117 1 (.slice A3 U.length c3) U.length (u64s U') ∧ wr.ownsRow base 117 1 (.slice A4 D.length c4) D.length (u64s D') ∧
      Canc U D U' D' k 0 ∧ Below base w wr ∧ Hid (KeptU w wr) ∧ Cel wr Bf 150 #[.bool neg, .slice A3 U.length c3, .slice A4 D.length c4]) (fun i _ => U.length - (intOf i).toNat)
  case atStart => exact ⟨0, U, D, by omega, rfl, h1', h2', hst, hb0, hku, hC'⟩
  case round =>
    clear h1' h2' hst hb0 hC' hku
    obtain ⟨k, U', D', hk, rfl, hown3, hown4, hst, hbw, hku, hres⟩ := hrel
    by_cases hlt : k < U.length
    · go_wp2
      go_loopw [5] (fun j wr => ∃ (m : Nat) (U' D' : List Nat), m ≤ D.length ∧ j = .int .i64 m ∧ wr.ownsRow base 117 1 (.slice A3 U.length c3) U.length (u64s U') ∧ wr.ownsRow base 117 1 (.slice A4 D.length c4) D.length (u64s D') ∧
          Canc U D U' D' k m ∧ Below base w wr ∧ Hid (KeptU w wr) ∧ Cel wr Bf 150 #[.bool neg, .slice A3 U.length c3, .slice A4 D.length c4]) (fun j _ => D.length - (intOf j).toNat)
      case atStart => exact ⟨0, U', D', by omega, rfl, hown3, hown4, hst, hbw, hku, hres⟩
      case round =>
        clear hown3 hown4 hst hbw hku hres
        obtain ⟨m, U', D', hm, rfl, hown3, hown4, hst, hbw, hku, hres⟩ := hrel
        by_cases hlm : m < D.length
        · obtain ⟨g3, rfl, hg3, hg3'⟩ := f3 (by omega)
          obtain ⟨g4, rfl, hg4, hg4'⟩ := f4 (by omega)
          have hne1 : ¬ g3 = g4 := hne g3 g4 rfl rfl
          have hne' : ¬ g4 = g3 := fun e => hne1 e.symm
          have hkU : k < U'.length := by rw [hst.lenU]; exact hlt
          have hmD : m < D'.length := by rw [hst.lenD]; exact hlm
          have hcu : wr.cell? ⟨g3, k, none⟩ = some (.int .u64 (U'[k] : Int)) := (hown3.cellAt k (by omega)).trans (u64s_get hkU)
          have hcd : wr.cell? ⟨g4, m, none⟩ = some (.int .u64 (D'[m] : Int)) := (hown4.cellAt m (by omega)).trans (u64s_get hmD)
          have hfu := hown3.frozenAt k
          have hfd := hown4.frozenAt m
          have bu := hst.onesU.get hkU
          have bd := hst.onesD.get hmD
          obtain ⟨g, hg⟩ : ∃ g, g = Nat.gcd U'[k] D'[m] := ⟨_, rfl⟩
          have hg1 : 0 < g := by rw [hg]; exact Nat.gcd_pos_of_pos_left _ (by omega)
          have HCom : Hid (∀ W : World, Calls Tryd.prog 91 #[.int .u64 (U'[k] : Int), .int .u64 (D'[m] : Int)] W fun e w' => e = .returned (.int .u64 (g : Int)) ∧ ∃ n, w' = W.drewN n) :=
            fun W => by rw [hg]; exact gcd_any _ _ W bu.2 bd.2
          have HST := Lib.hid (hst.step hkU hmD g hg)
          clear hg
          generalize hu : U'[k] = x at *
          generalize hv : D'[m] = y at *
          have HU := Lib.hid hu
          have HV := Lib.hid hv
          clear hu hv hst
          have k1 : (0 : Int) ≤ (k : Int) := by omega
          have k2 : (k : Int) < (U.length : Int) := by omega
          have k3 : (0 : Int) ≤ (m : Int) := by omega
          have k4 : (m : Int) < (D.length : Int) := by omega
          have g0 : ((g : Int) == 0) = false := by rw [beq_eq_false_iff_ne]; omega
          go_wp2
          go_quiet ((go_at_call 91; exact Calls.quiet_of (HCom.out _)))
          go_wp2
          go_region
          have hs3 := (hown3.stored k (.int .u64 ((x / g : Nat) : Int))).1
          rw [u64s_set] at hs3
          have n3 := ownsRow_setCell_other (own_drewN hs3 (nq + 1)) (a := ⟨g4, m, none⟩) (by simpa [Value.ownBlock] using hne1) (.int .u64 ((y / g : Nat) : Int))
          go_wp2
          go_roundw
          case rel =>
            refine ⟨m + 1, U'.set k (x / g), D'.set m (y / g), by omega, by go_num, ?_, ?_, HST.out, ?_, ?_, ?_⟩
            all_goals rw [wrap_div x g bu.2, wrap_div y g bd.2]
            · exact n3
            · exact (own_stored (ownsRow_setCell_other (own_drewN hown4 (nq + 1)) (a := ⟨g3, k, none⟩) (by simpa [Value.ownBlock] using hne') (.int .u64 ((x / g : Nat) : Int))) m (y / g))
            · exact ((below_drewN hbw (nq + 1)).setCell (p := ⟨g3, k, none⟩) hg3 _).setCell (p := ⟨g4, m, none⟩) hg4 _
            · exact ((show KeptU w (wr.drewN (nq + 1)) from hku.out.trans (KeptU.below (below_drewN' wr (nq + 1)))).set (own_drewN hown3 (nq + 1)) k _).set (ownsRow_setCell_other (own_drewN hown4 (nq + 1)) (a := ⟨g3, k, none⟩) (by simpa [Value.ownBlock] using hne') _) m _
            · exact (show Cel (wr.drewN (nq + 1)) _ _ _ from hres.below hres.lt (below_drewN' wr (nq + 1))).other (by simp; omega) _ |>.other (by simp; omega) _
          case measure => simp [intOf]; omega
        · have : m = D.length := by omega
          subst this
          go_wp2
          go_roundw
          case rel => exact ⟨k + 1, U', D', by omega, by go_num, hown3, hown4, (by rw [← hst.lenD] at hst; exact hst.next), hbw, hku, hres⟩
          case measure => simp [intOf]; omega
    · have : k = U.length := by omega
      subst this
      have HST := Lib.hid hst
      clear hst
      go_wp2
      go_end0
      refine ⟨rfl, U', D', ⟨_, _, hres, hB, by rw [HST.out.lenU]; exact hown3, by rw [HST.out.lenD]; exact hown4, HDIS.out⟩, HST.out.lenU, HST.out.lenD, HST.out.onesU, HST.out.onesD, ?_, hbw, hku.out⟩
      have h := HST.out; have e := h.lenU; rw [← e] at h; exact h.red
end Go.Proofs.YtmibpncmebhbjaaDoor
