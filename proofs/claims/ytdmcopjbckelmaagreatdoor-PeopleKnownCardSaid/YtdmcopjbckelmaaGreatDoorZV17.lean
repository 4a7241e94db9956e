/- PeopleKnown: the walk. Condition: the package variable zero of metro holds what the program's text lays in it. -/
import Derived.Test.YtdmcopjbckelmaaGreatDoorZU19
import Derived.Test.YtdmcopjbckelmaaGreatDoorZU9
import Derived.Test.YtdmcopjbckelmaaGreatDoorZUB
import Derived.Test.YtdmcopjbckelmaaGreatDoorZJ1
import Derived.Test.YtdmcopjbckelmaaGreatDoorZH
import Derived.Test.YtdmcopjbckelmaaGreatDoorZU0
namespace Go.Proofs.YtdmcopjbckelmaaGreatDoor
open Go Go.RowKit Go.Shelf
attribute [local go_sem] Oper.semAt_some

theorem kn_short : Short [nAda] := short_of (by kernel_rfl)
theorem made_strs25 : madeCells (Value.string ⟨#[]⟩).cells (25 * 1) = (namesV knE25).toArray := by kernel_rfl
set_option maxRecDepth 100000 in
set_option maxHeartbeats 16000000 in
theorem known_any (w : World) (hz : Zw w) : Calls Tryz.prog 10 #[] w fun e w' => e = .returned (.bool true) ∧ Below w.heap.size w w' := by
  have HEx := Lib.hid (fun w' => example_any w')
  have HDe := Lib.hid (fun w' => deeds_any w')
  have HWk := Lib.hid (fun w' hb => works_any w' (hz.below hb))
  have HEq := Lib.hid (fun a b l w' h1 h2 => eqTexts_same a b l w' h1 h2)
  have HMu : Hid (∀ A F w', NetC w' A 4 4 F 6 6 exP exF → Calls Tryz.prog 52 #[.agg #[.slice A 4 4, .slice F 6 6], .agg #[.int .i64 3, .string ⟨#[99, 117, 114]⟩, .string ⟨#[97, 100, 97]⟩, .int .i64 0]] w' fun e w'' => e = .returned (.tuple #[.bool true, .int .i64 0]) ∧ Below w'.heap.size w' w'') := fun A F w' h => by
    have := pMust_any A 4 4 F 6 6 exP exF knOlder w' h exP_short
    rwa [kn_must, kn_mustE] at this
  have HPa : Hid (∀ A F w', NetC w' A 4 4 F 6 6 exP exF → Calls Tryz.prog 29 #[.agg #[.slice A 4 4, .slice F 6 6], .string ⟨#[97, 100, 97]⟩] w' fun e w'' => ∃ v, e = .returned (.tuple #[v, .int .i64 0]) ∧ Sl w'' 1 v (namesV [nBel]) ∧ Below w'.heap.size w' w'') := fun A F w' h => by
    have := pParents_any A 4 4 F 6 6 exP exF nAda w' h exP_short
    rw [show namedF exP exF [nAda] = 0 by kernel_rfl, if_pos rfl, kn_parA] at this
    refine this.mono ?_
    rintro e w'' ⟨hb, v, rfl, hs⟩
    exact ⟨v, rfl, hs, hb⟩
  have HCh : Hid (∀ A F w', NetC w' A 4 4 F 6 6 exP exF → Calls Tryz.prog 31 #[.agg #[.slice A 4 4, .slice F 6 6], .string ⟨#[98, 101, 108]⟩] w' fun e w'' => ∃ v, e = .returned (.tuple #[v, .int .i64 0]) ∧ Sl w'' 1 v (namesV [nAda, nCur]) ∧ Below w'.heap.size w' w'') := fun A F w' h => by
    have := pChildren_any A 4 4 F 6 6 exP exF nBel w' h exP_short
    rw [ex_named, if_pos rfl, ex_ch] at this
    refine this.mono ?_
    rintro e w'' ⟨hb, v, rfl, hs⟩
    exact ⟨v, rfl, hs, hb⟩
  have HAn : Hid (∀ A F w', NetC w' A 4 4 F 6 6 exP exF → Calls Tryz.prog 33 #[.agg #[.slice A 4 4, .slice F 6 6], .string ⟨#[98, 101, 108]⟩] w' fun e w'' => ∃ A' c, e = .returned (.tuple #[.slice A' 0 c, .int .i64 0]) ∧ Below w'.heap.size w' w'') := fun A F w' h => by
    refine (ancestors_inc A 4 4 F 6 6 exP exF nBel w' h exP_short ex_named ex_aboutF (by decide) (by decide)).mono ?_
    rintro e w'' ⟨hb, v, l, rfl, hs, _, hl⟩
    have hn : l = [] := by
      rw [List.eq_nil_iff_forall_not_mem]
      intro s hm
      exact kn_anc s ((hl s).1 hm)
    subst hn
    obtain ⟨A', c, rfl, _⟩ := names_at0 hs
    exact ⟨A', c, rfl, hb⟩
  have HKa : Hid (∀ A F w', NetC w' A 4 4 F 6 6 exP exF → Calls Tryz.prog 35 #[.agg #[.slice A 4 4, .slice F 6 6], .string ⟨#[97, 100, 97]⟩, .string ⟨#[99, 117, 114]⟩] w' fun e w'' => e = .returned (.tuple #[.int .i64 1, .int .i64 1, .int .i64 0]) ∧ Below w'.heap.size w' w'') := fun A F w' h => by
    refine (kin_good A 4 4 F 6 6 exP exF nAda nCur w' h exP_short (by kernel_rfl) (by decide) (by decide) ex_aboutF (by decide) (by decide)).mono ?_
    rintro e w'' ⟨hb, iA, iB, fd, up, dn, h1, h2, h3, rfl⟩
    obtain ⟨rfl, rfl, rfl⟩ := kn_kin h1 h2 h3
    exact ⟨rfl, hb⟩
  have HKb : Hid (∀ A F w', NetC w' A 4 4 F 6 6 exP exF → Calls Tryz.prog 35 #[.agg #[.slice A 4 4, .slice F 6 6], .string ⟨#[97, 100, 97]⟩, .string ⟨#[100, 97, 110]⟩] w' fun e w'' => e = .returned (.tuple #[.int .i64 0, .int .i64 0, .int .i64 4]) ∧ Below w'.heap.size w' w'') := fun A F w' h => by
    refine (kin_good A 4 4 F 6 6 exP exF nAda nDan w' h exP_short (by kernel_rfl) (by decide) (by decide) ex_aboutF (by decide) (by decide)).mono ?_
    rintro e w'' ⟨hb, iA, iB, fd, up, dn, h1, h2, h3, rfl⟩
    obtain ⟨rfl, rfl, rfl⟩ := kn_kin2 h1 h2 h3
    exact ⟨rfl, hb⟩
  have HSa : Hid (∀ A F w', NetC w' A 4 4 F 6 6 exP exF → Calls Tryz.prog 42 #[.agg #[.slice A 4 4, .slice F 6 6], .string ⟨#[97, 100, 97]⟩, .string ⟨#[98, 101, 108]⟩] w' fun e w'' => e = .returned (.tuple #[.bool false, .int .i64 0]) ∧ Below w'.heap.size w' w'') := fun A F w' h => by
    have := same_any A 4 4 F 6 6 exP exF nAda nBel w' h exP_short
    rwa [kn_same1] at this
  have HSb : Hid (∀ A F w', NetC w' A 4 4 F 6 6 exP exF → Calls Tryz.prog 42 #[.agg #[.slice A 4 4, .slice F 6 6], .string ⟨#[97, 100, 97]⟩, .string ⟨#[100, 97, 110]⟩] w' fun e w'' => e = .returned (.tuple #[.bool true, .int .i64 0]) ∧ Below w'.heap.size w' w'') := fun A F w' h => by
    have := same_any A 4 4 F 6 6 exP exF nAda nDan w' h exP_short
    rwa [kn_same2] at this
  have HTa : Hid (∀ w' : World, Calls Tryz.prog 53 #[.int .i64 1, .int .i64 2] w' fun e w'' => e = .returned (.string ⟨#[117, 110, 99, 108, 101]⟩) ∧ Below w'.heap.size w' w'') := fun w' => by
    have := term_any 1 2 w'
    rwa [kn_termA] at this
  have HTb : Hid (∀ w' : World, Calls Tryz.prog 53 #[.int .i64 0, .int .i64 5] w' fun e w'' => e = .returned (.string ⟨#[97, 110, 99, 101, 115, 116, 111, 114]⟩) ∧ Below w'.heap.size w' w'') := fun w' => by
    have := term_any 0 5 w'
    rwa [kn_termB] at this
  have HTc : Hid (∀ w' : World, Calls Tryz.prog 53 #[.int .i64 3, .int .i64 1] w' fun e w'' => e = .returned (.string ⟨#[107, 105, 110]⟩) ∧ Below w'.heap.size w' w'') := fun w' => by
    have := term_any 3 1 w'
    rwa [kn_termC] at this
  have HTd : Hid (∀ w' : World, Calls Tryz.prog 53 #[.int .i64 (-1), .int .i64 0] w' fun e w'' => e = .returned (.string ⟨#[]⟩) ∧ Below w'.heap.size w' w'') := fun w' => by
    have := term_any (-1) 0 w'
    rwa [kn_termD] at this
  have HFr : Hid (∀ v w', DeedsV w' v exD → Calls Tryz.prog 37 #[v] w' fun e w'' => ∃ A n c b o d, e = .returned (.tuple #[.agg #[.slice A n c, .slice (some ⟨b, o, none⟩) 6 d], .int .i64 0]) ∧ ((6 : Nat) ≤ d ∧ (d : Int) ≤ 9223372036854775807) ∧ (∀ j u, [Value.int .i64 5, .string nCur, .string ⟨#[]⟩, .int .i64 20][j]? = some u → w''.cell? ⟨b, o + (12 + j), none⟩ = some u) ∧ Below w'.heap.size w' w'') := fun v w' h => by
    have := fromDeeds_any v exD w' h exD_short
    rw [kn_from] at this
    refine this.mono ?_
    rintro e w'' ⟨hb, A, n, c, F, m, d, rfl, hn⟩
    obtain ⟨b, o, c', e, h1, h2, _, hc⟩ := lives_open hn.2 (n := 6) rfl (by decide)
    cases e
    refine ⟨A, n, c, b, o, d, rfl, ⟨h1, h2⟩, fun j u hj => hc (12 + j) u ?_, hb⟩
    rcases j with _ | _ | _ | _ | j
    · exact hj
    · exact hj
    · exact hj
    · exact hj
    · simp at hj
  have HTo : Hid (∀ v w', DeedsV w' v exD → Calls Tryz.prog 17 #[v, .string ⟨#[98, 101, 108]⟩, .string ⟨#[99, 117, 114]⟩] w' fun e w'' => e = .returned (.tuple #[.int .i64 1, .int .i64 0]) ∧ Below w'.heap.size w' w'') := fun v w' h => by
    have := together_any v exD nBel nCur w' h exD_short
    rwa [kn_tog1, exD_check] at this
  have HTp : Hid (∀ v w', DeedsV w' v exD → Calls Tryz.prog 17 #[v, .string ⟨#[99, 117, 114]⟩, .string ⟨#[99, 117, 114]⟩] w' fun e w'' => e = .returned (.tuple #[.int .i64 2, .int .i64 0]) ∧ Below w'.heap.size w' w'') := fun v w' h => by
    have := together_any v exD nCur nCur w' h exD_short
    rwa [kn_tog2, exD_check] at this
  have HSe : Hid (∀ v w', DeedsV w' v exD → Calls Tryz.prog 49 #[v] w' fun e w'' => ∃ v', e = .returned (.tuple #[v', .int .i64 0]) ∧ Sl w'' 1 v' (namesV [⟨#[108, 105, 111, 110]⟩]) ∧ Below w'.heap.size w' w'') := fun v w' h => by
    have := seals_any v exD w' h exD_short
    rw [exD_check, if_pos rfl, kn_seals] at this
    refine this.mono ?_
    rintro e w'' ⟨hb, v', rfl, hs⟩
    exact ⟨v', rfl, hs, hb⟩
  have HCi : Hid (∀ v w', DeedsV w' v exD → Calls Tryz.prog 47 #[v] w' fun e w'' => ∃ A c, e = .returned (.tuple #[.slice A 2 c, .int .i64 0]) ∧ Below w'.heap.size w' w'') := fun v w' h => by
    have := circles_any v exD w' h exD_short
    rw [exD_check, if_pos rfl] at this
    refine this.mono ?_
    rintro e w'' ⟨hb, v', rfl, vs, hl, hs, _⟩
    rw [kn_circles] at hl
    obtain ⟨A, n, c, rfl, e, _⟩ := hs.open2 (by decide)
    obtain rfl : n = 2 := by omega
    exact ⟨A, c, rfl, hb⟩
  have HCn : Hid (∀ v w', DeedsV w' v exD → Calls Tryz.prog 19 #[v, .string ⟨#[97, 100, 97]⟩, .string ⟨#[101, 108, 105]⟩] w' fun e w'' => ∃ v', e = .returned (.tuple #[v', .int .i64 4]) ∧ Below w'.heap.size w' w'') := fun v w' h => by
    have := chain_any v exD nAda nEli w' h exD_short
    unfold ChainR at this
    rw [kn_chain.1] at this
    refine this.mono ?_
    rintro e w'' ⟨hb, v', rfl, _⟩
    exact ⟨v', rfl, hb⟩
  have HLi : Hid (∀ A F w', NetC w' A 1 1 F 2 2 [nAda] (knA 91) → Calls Tryz.prog 55 #[.agg #[.slice A 1 1, .slice F 2 2]] w' fun e w'' => ∃ v, e = .returned (.tuple #[v, .int .i64 101]) ∧ Below w'.heap.size w' w'') := fun A F w' h => by
    have := lives_any A 1 1 F 2 2 [nAda] (knA 91) w' h kn_short
    rw [kn_lives] at this
    refine this.mono ?_
    rintro e w'' ⟨hb, v, rfl, _⟩
    exact ⟨v, rfl, hb⟩
  have HCo : Hid (∀ A F w', NetC w' A 1 1 F 2 2 [nAda] (knA 90) → Calls Tryz.prog 38 #[.agg #[.slice A 1 1, .slice F 2 2]] w' fun e w'' => e = .returned (.tuple #[.bool true, .int .i64 0]) ∧ Below w'.heap.size w' w'') := fun A F w' h => by
    have := consistent_any A 1 1 F 2 2 [nAda] (knA 90) w' h kn_short
    rwa [kn_cons, kn_check90] at this
  have HC5 : Hid (∀ A F w', NetC w' A 4 4 F 6 6 exP exF → Calls Tryz.prog 24 #[.agg #[.slice A 4 4, .slice F 6 6], .int .i64 5] w' fun e w'' => ∃ v, e = .returned (.tuple #[v, .int .i64 8]) ∧ Below w'.heap.size w' w'') := fun A F w' h => by
    have := contr_any A 4 4 F 6 6 exP exF 5 w' h exP_short
    rw [kn_contr5] at this
    refine this.mono ?_
    rintro e w'' ⟨hb, v, rfl, _⟩
    exact ⟨v, rfl, hb⟩
  have HC4 : Hid (∀ A F w', NetC w' A 4 4 F 6 6 exP exF → Calls Tryz.prog 24 #[.agg #[.slice A 4 4, .slice F 6 6], .int .i64 4] w' fun e w'' => ∃ v, e = .returned (.tuple #[v, .int .i64 4]) ∧ Below w'.heap.size w' w'') := fun A F w' h => by
    have := contr_any A 4 4 F 6 6 exP exF 4 w' h exP_short
    rw [kn_contr4] at this
    refine this.mono ?_
    rintro e w'' ⟨hb, v, rfl, _⟩
    exact ⟨v, rfl, hb⟩
  have HWo : Hid (∀ A F v w', NetC w' A 4 4 F 6 6 exP exF → Sl w' 1 v [.int .i64 1, .int .i64 1] → Calls Tryz.prog 27 #[.agg #[.slice A 4 4, .slice F 6 6], v] w' fun e w'' => ∃ u, e = .returned (.tuple #[u, .int .i64 8]) ∧ Below w'.heap.size w' w'') := fun A F v w' h hv => by
    have := without_any A 4 F 6 exP exF v [1, 1] w' h exP_short hv
    rw [kn_wo] at this
    refine this.mono ?_
    rintro e w'' ⟨hb, A', n, c, F', m, d, rfl, _⟩
    exact ⟨_, rfl, hb⟩
  have HMe : Hid (∀ A F w', NetC w' A 4 4 F 6 6 exP exF → Calls Tryz.prog 40 #[.agg #[.slice A 4 4, .slice F 6 6], .string ⟨#[97, 100, 97]⟩, .string ⟨#[97, 100, 97]⟩] w' fun e w'' => ∃ u, e = .returned (.tuple #[u, .int .i64 2]) ∧ Below w'.heap.size w' w'') := fun A F w' h => by
    have := merge_any A 4 4 F 6 6 exP exF nAda nAda w' h exP_short
    rw [kn_merge] at this
    refine this.mono ?_
    rintro e w'' ⟨hb, A', n, c, F', m, d, rfl, _⟩
    exact ⟨_, rfl, hb⟩
  have HK1 : Hid (∀ A w', NetC w' A 2 2 none 0 0 knBa [] → Calls Tryz.prog 56 #[.agg #[.slice A 2 2, .slice none 0 0]] w' fun e w'' => e = .returned (.int .i64 100) ∧ Below w'.heap.size w' w'') := fun A w' h => by
    have := check_any A 2 2 none 0 0 knBa [] w' h (short_of (by kernel_rfl))
    rwa [kn_check1] at this
  have HK2 : Hid (∀ A w', NetC w' A 25 25 none 0 0 knE25 [] → Calls Tryz.prog 56 #[.agg #[.slice A 25 25, .slice none 0 0]] w' fun e w'' => e = .returned (.int .i64 3) ∧ Below w'.heap.size w' w'') := fun A w' h => by
    have := check_any A 25 25 none 0 0 knE25 [] w' h (short_of (by kernel_rfl))
    rwa [kn_check2] at this
  have hmk : ∀ W : World, (Instr.makeSlice 22 (.int .i64 25) (.int .i64 25)).run Tryz.prog W = .ok (.slice (some ⟨W.heap.size, 0, none⟩) 25 25) (W.alloc (.cells (namesV knE25).toArray 9)) := by
    intro W
    obtain ⟨i, hi, hz0, hz1, hz2⟩ := info_parts infoStr
    have hr := run_make (P := Tryz.prog) W 22 9 i (.string ⟨#[]⟩) Tryz.underlying22 hi hz0 .i64 .i64 25 25 (by omega) (Int.le_refl _) (by rw [hz2]; omega) (by omega)
    rw [hr, hz1]
    exact congrArg (fun c => Result.ok _ (W.alloc (.cells c 9))) made_strs25
  clear hz
  go_enter Tryz.func10, Tryz.ntmps10
  go_wp2_with fail
  refine (HEx.out w).mono ?_
  rintro e w1 ⟨A1, F1, rfl, _, _, _, hn1, hb1⟩
  have HB1 := Lib.hid (hb1.alloc hb1.size (.cells #[.slice (some ⟨A1, 0, none⟩) 4 4, .slice (some ⟨F1, 0, none⟩) 6 6] 25))
  have HY := Lib.hid (Cel.new w1 25 #[.slice (some ⟨A1, 0, none⟩) 4 4, .slice (some ⟨F1, 0, none⟩) 6 6])
  have HN := Lib.hid (hn1.below (below_alloc' w1 (.cells #[.slice (some ⟨A1, 0, none⟩) 4 4, .slice (some ⟨F1, 0, none⟩) 6 6] 25)))
  clear hn1 hb1 HEx
  go_wp2_with fail
  generalize w1.alloc (.cells #[.slice (some ⟨A1, 0, none⟩) 4 4, .slice (some ⟨F1, 0, none⟩) 6 6] 25) = W1 at *
  generalize w1.heap.size = BY at *
  refine (HMu.out _ _ _ HN.out).mono ?_
  rintro e w2 ⟨rfl, hb2⟩
  have HB2 := Lib.hid (HB1.out.trans (hb2.mono HB1.out.size))
  replace HY := Lib.hid (HY.out.below HY.out.lt hb2)
  replace HN := Lib.hid (HN.out.below hb2)
  clear HMu
  clear hb2
  have cHY0 := HY.out.cell 0 _ rfl
  have cHY1 := HY.out.cell 1 _ rfl
  go_wp2_with fail
  clear cHY0 cHY1
  refine (HPa.out _ _ _ HN.out).mono ?_
  rintro e w3 ⟨vp, rfl, hsp, hb3⟩
  have HB3 := Lib.hid (HB2.out.trans (hb3.mono HB2.out.size))
  replace HY := Lib.hid (HY.out.below HY.out.lt hb3)
  replace HN := Lib.hid (HN.out.below hb3)
  have HP := Lib.hid hsp
  clear hsp
  clear HPa
  clear hb3
  have cHY0 := HY.out.cell 0 _ rfl
  have cHY1 := HY.out.cell 1 _ rfl
  go_wp2_with fail
  clear cHY0 cHY1
  refine (HCh.out _ _ _ HN.out).mono ?_
  rintro e w4 ⟨vc, rfl, hsc, hb4⟩
  have HB4 := Lib.hid (HB3.out.trans (hb4.mono HB3.out.size))
  replace HY := Lib.hid (HY.out.below HY.out.lt hb4)
  replace HN := Lib.hid (HN.out.below hb4)
  replace HP := Lib.hid (HP.out.below hb4)
  have HC := Lib.hid hsc
  clear hsc
  clear HCh
  clear hb4
  have cHY0 := HY.out.cell 0 _ rfl
  have cHY1 := HY.out.cell 1 _ rfl
  go_wp2_with fail
  clear cHY0 cHY1
  refine (HAn.out _ _ _ HN.out).mono ?_
  rintro e w5 ⟨Aa, ca, rfl, hb5⟩
  have HB5 := Lib.hid (HB4.out.trans (hb5.mono HB4.out.size))
  replace HY := Lib.hid (HY.out.below HY.out.lt hb5)
  replace HN := Lib.hid (HN.out.below hb5)
  replace HP := Lib.hid (HP.out.below hb5)
  replace HC := Lib.hid (HC.out.below hb5)
  clear HAn
  clear hb5
  have cHY0 := HY.out.cell 0 _ rfl
  have cHY1 := HY.out.cell 1 _ rfl
  go_wp2_with fail
  clear cHY0 cHY1
  refine (HWk.out _ HB5.out).mono ?_
  rintro e w6 ⟨rfl, hb6⟩
  have HB6 := Lib.hid (HB5.out.trans (hb6.mono HB5.out.size))
  replace HY := Lib.hid (HY.out.below HY.out.lt hb6)
  replace HN := Lib.hid (HN.out.below hb6)
  replace HP := Lib.hid (HP.out.below hb6)
  replace HC := Lib.hid (HC.out.below hb6)
  clear HWk
  clear hb6
  have cHY0 := HY.out.cell 0 _ rfl
  have cHY1 := HY.out.cell 1 _ rfl
  go_wp2_with fail
  clear cHY0 cHY1
  have HL := Lib.hid (Sl.new (s := 1) w6 9 1 1 #[.string ⟨#[98, 101, 108]⟩] rfl (Nat.le_refl _) (by decide))
  have hb7 := below_alloc' w6 (.cells #[.string ⟨#[98, 101, 108]⟩] 9)
  generalize w6.alloc (.cells #[.string ⟨#[98, 101, 108]⟩] 9) = w7 at *
  have HB7 := Lib.hid (HB6.out.trans (hb7.mono HB6.out.size))
  replace HY := Lib.hid (HY.out.below HY.out.lt hb7)
  replace HN := Lib.hid (HN.out.below hb7)
  replace HP := Lib.hid (HP.out.below hb7)
  replace HC := Lib.hid (HC.out.below hb7)
  clear hb7
  refine (HEq.out _ _ [nBel] _ HP.out HL.out).mono ?_
  rintro e w8 ⟨rfl, hb8⟩
  have HB8 := Lib.hid (HB7.out.trans (hb8.mono HB7.out.size))
  replace HY := Lib.hid (HY.out.below HY.out.lt hb8)
  replace HN := Lib.hid (HN.out.below hb8)
  replace HC := Lib.hid (HC.out.below hb8)
  clear HP HL
  clear hb8
  have cHY0 := HY.out.cell 0 _ rfl
  have cHY1 := HY.out.cell 1 _ rfl
  go_wp2_with fail
  clear cHY0 cHY1
  have HL := Lib.hid (Sl.new (s := 1) w8 9 2 2 #[.string ⟨#[97, 100, 97]⟩, .string ⟨#[99, 117, 114]⟩] rfl (Nat.le_refl _) (by decide))
  have hb9 := below_alloc' w8 (.cells #[.string ⟨#[97, 100, 97]⟩, .string ⟨#[99, 117, 114]⟩] 9)
  generalize w8.alloc (.cells #[.string ⟨#[97, 100, 97]⟩, .string ⟨#[99, 117, 114]⟩] 9) = w9 at *
  have HB9 := Lib.hid (HB8.out.trans (hb9.mono HB8.out.size))
  replace HY := Lib.hid (HY.out.below HY.out.lt hb9)
  replace HN := Lib.hid (HN.out.below hb9)
  replace HC := Lib.hid (HC.out.below hb9)
  clear hb9
  refine (HEq.out _ _ [nAda, nCur] _ HC.out HL.out).mono ?_
  rintro e w10 ⟨rfl, hb10⟩
  have HB10 := Lib.hid (HB9.out.trans (hb10.mono HB9.out.size))
  replace HY := Lib.hid (HY.out.below HY.out.lt hb10)
  replace HN := Lib.hid (HN.out.below hb10)
  clear HC HL
  clear hb10
  have cHY0 := HY.out.cell 0 _ rfl
  have cHY1 := HY.out.cell 1 _ rfl
  go_wp2_with fail
  clear cHY0 cHY1
  refine (HKa.out _ _ _ HN.out).mono ?_
  rintro e w11 ⟨rfl, hb11⟩
  have HB11 := Lib.hid (HB10.out.trans (hb11.mono HB10.out.size))
  replace HY := Lib.hid (HY.out.below HY.out.lt hb11)
  replace HN := Lib.hid (HN.out.below hb11)
  clear HKa
  clear hb11
  have cHY0 := HY.out.cell 0 _ rfl
  have cHY1 := HY.out.cell 1 _ rfl
  go_wp2_with fail
  clear cHY0 cHY1
  refine (HKb.out _ _ _ HN.out).mono ?_
  rintro e w12 ⟨rfl, hb12⟩
  have HB12 := Lib.hid (HB11.out.trans (hb12.mono HB11.out.size))
  replace HY := Lib.hid (HY.out.below HY.out.lt hb12)
  replace HN := Lib.hid (HN.out.below hb12)
  clear HKb
  clear hb12
  have cHY0 := HY.out.cell 0 _ rfl
  have cHY1 := HY.out.cell 1 _ rfl
  go_wp2_with fail
  clear cHY0 cHY1
  refine (HSa.out _ _ _ HN.out).mono ?_
  rintro e w13 ⟨rfl, hb13⟩
  have HB13 := Lib.hid (HB12.out.trans (hb13.mono HB12.out.size))
  replace HY := Lib.hid (HY.out.below HY.out.lt hb13)
  replace HN := Lib.hid (HN.out.below hb13)
  clear HSa
  clear hb13
  have cHY0 := HY.out.cell 0 _ rfl
  have cHY1 := HY.out.cell 1 _ rfl
  go_wp2_with fail
  clear cHY0 cHY1
  refine (HSb.out _ _ _ HN.out).mono ?_
  rintro e w14 ⟨rfl, hb14⟩
  have HB14 := Lib.hid (HB13.out.trans (hb14.mono HB13.out.size))
  replace HY := Lib.hid (HY.out.below HY.out.lt hb14)
  replace HN := Lib.hid (HN.out.below hb14)
  clear HSb
  clear hb14
  have cHY0 := HY.out.cell 0 _ rfl
  have cHY1 := HY.out.cell 1 _ rfl
  go_wp2_with fail
  clear cHY0 cHY1
  refine (HTa.out _).mono ?_
  rintro e w15 ⟨rfl, hb15⟩
  have HB15 := Lib.hid (HB14.out.trans (hb15.mono HB14.out.size))
  replace HY := Lib.hid (HY.out.below HY.out.lt hb15)
  replace HN := Lib.hid (HN.out.below hb15)
  clear HTa
  clear hb15
  have cHY0 := HY.out.cell 0 _ rfl
  have cHY1 := HY.out.cell 1 _ rfl
  go_wp2_with fail
  clear cHY0 cHY1
  refine (HTb.out _).mono ?_
  rintro e w16 ⟨rfl, hb16⟩
  have HB16 := Lib.hid (HB15.out.trans (hb16.mono HB15.out.size))
  replace HY := Lib.hid (HY.out.below HY.out.lt hb16)
  replace HN := Lib.hid (HN.out.below hb16)
  clear HTb
  clear hb16
  have cHY0 := HY.out.cell 0 _ rfl
  have cHY1 := HY.out.cell 1 _ rfl
  go_wp2_with fail
  clear cHY0 cHY1
  refine (HTc.out _).mono ?_
  rintro e w17 ⟨rfl, hb17⟩
  have HB17 := Lib.hid (HB16.out.trans (hb17.mono HB16.out.size))
  replace HY := Lib.hid (HY.out.below HY.out.lt hb17)
  replace HN := Lib.hid (HN.out.below hb17)
  clear HTc
  clear hb17
  have cHY0 := HY.out.cell 0 _ rfl
  have cHY1 := HY.out.cell 1 _ rfl
  go_wp2_with fail
  clear cHY0 cHY1
  refine (HTd.out _).mono ?_
  rintro e w18 ⟨rfl, hb18⟩
  have HB18 := Lib.hid (HB17.out.trans (hb18.mono HB17.out.size))
  replace HY := Lib.hid (HY.out.below HY.out.lt hb18)
  replace HN := Lib.hid (HN.out.below hb18)
  clear HTd
  clear hb18
  have cHY0 := HY.out.cell 0 _ rfl
  have cHY1 := HY.out.cell 1 _ rfl
  go_wp2_with fail
  clear cHY0 cHY1
  refine (HDe.out _).mono ?_
  rintro e w19 ⟨vd, rfl, hd, hb19⟩
  have HB19 := Lib.hid (HB18.out.trans (hb19.mono HB18.out.size))
  replace HY := Lib.hid (HY.out.below HY.out.lt hb19)
  replace HN := Lib.hid (HN.out.below hb19)
  obtain ⟨Ad, cd, rfl, _⟩ := hd.shape
  have HD := Lib.hid hd
  clear hd
  clear HDe
  clear hb19
  have cHY0 := HY.out.cell 0 _ rfl
  have cHY1 := HY.out.cell 1 _ rfl
  go_wp2_with fail
  clear cHY0 cHY1
  refine (HFr.out _ _ HD.out).mono ?_
  rintro e w20 ⟨Af, nf, cf, bf, of, df, rfl, hlf, hcf, hb20⟩
  have HB20 := Lib.hid (HB19.out.trans (hb20.mono HB19.out.size))
  replace HY := Lib.hid (HY.out.below HY.out.lt hb20)
  replace HN := Lib.hid (HN.out.below hb20)
  replace HD := Lib.hid (HD.out.below hb20)
  have HFc := Lib.hid hcf
  have HFl := Lib.hid hlf
  clear hcf hlf
  clear HFr
  clear hb20
  have cHY0 := HY.out.cell 0 _ rfl
  have cHY1 := HY.out.cell 1 _ rfl
  have l0 := (Cel.new w20 25 #[.slice none 0 0, .slice none 0 0]).cell 0 _ rfl
  have l1 := (Cel.new w20 25 #[.slice none 0 0, .slice none 0 0]).cell 1 _ rfl
  have l2 := (Cel.new w20 25 #[.slice none 0 0, .slice none 0 0]).frozen 0
  have l3 := (Cel.new w20 25 #[.slice none 0 0, .slice none 0 0]).frozen 1
  go_upto_region 16 with fail
  clear l0 l1 l2 l3
  clear cHY0 cHY1
  have HO := Lib.hid (Cel.new w20 25 #[.slice Af nf cf, .slice (some ⟨bf, of, none⟩) 6 df])
  have hb21 := below_alloc' w20 (.cells #[.slice Af nf cf, .slice (some ⟨bf, of, none⟩) 6 df] 25)
  obtain ⟨BO, hBO⟩ : ∃ B, w20.heap.size = B := ⟨_, rfl⟩
  generalize w20.alloc (.cells #[.slice Af nf cf, .slice (some ⟨bf, of, none⟩) 6 df] 25) = w21 at *
  replace HFc := Lib.hid (fun j u h => below_cell hb21 (HFc.out j u h))
  have HB21 := Lib.hid (HB20.out.trans (hb21.mono HB20.out.size))
  replace HY := Lib.hid (HY.out.below HY.out.lt hb21)
  replace HN := Lib.hid (HN.out.below hb21)
  replace HD := Lib.hid (HD.out.below hb21)
  rw [hBO] at HO ⊢
  clear hb21 hBO
  have cHY0 := HY.out.cell 0 _ rfl
  have cHY1 := HY.out.cell 1 _ rfl
  have cHO0 := HO.out.cell 0 _ rfl
  have cHO1 := HO.out.cell 1 _ rfl
  go_wp2_with fail
  clear cHY0 cHY1 cHO0 cHO1
  refine (HTo.out _ _ HD.out).mono ?_
  rintro e w22 ⟨rfl, hb22⟩
  have HB22 := Lib.hid (HB21.out.trans (hb22.mono HB21.out.size))
  replace HY := Lib.hid (HY.out.below HY.out.lt hb22)
  replace HO := Lib.hid (HO.out.below HO.out.lt hb22)
  replace HN := Lib.hid (HN.out.below hb22)
  replace HD := Lib.hid (HD.out.below hb22)
  replace HFc := Lib.hid (fun j u h => below_cell hb22 (HFc.out j u h))
  clear HTo
  clear hb22
  have cHY0 := HY.out.cell 0 _ rfl
  have cHY1 := HY.out.cell 1 _ rfl
  have cHO0 := HO.out.cell 0 _ rfl
  have cHO1 := HO.out.cell 1 _ rfl
  go_wp2_with fail
  clear cHY0 cHY1 cHO0 cHO1
  refine (HTp.out _ _ HD.out).mono ?_
  rintro e w23 ⟨rfl, hb23⟩
  have HB23 := Lib.hid (HB22.out.trans (hb23.mono HB22.out.size))
  replace HY := Lib.hid (HY.out.below HY.out.lt hb23)
  replace HO := Lib.hid (HO.out.below HO.out.lt hb23)
  replace HN := Lib.hid (HN.out.below hb23)
  replace HD := Lib.hid (HD.out.below hb23)
  replace HFc := Lib.hid (fun j u h => below_cell hb23 (HFc.out j u h))
  clear HTp
  clear hb23
  have cHY0 := HY.out.cell 0 _ rfl
  have cHY1 := HY.out.cell 1 _ rfl
  have cHO0 := HO.out.cell 0 _ rfl
  have cHO1 := HO.out.cell 1 _ rfl
  go_wp2_with fail
  clear cHY0 cHY1 cHO0 cHO1
  refine (HSe.out _ _ HD.out).mono ?_
  rintro e w24 ⟨vs, rfl, hss, hb24⟩
  have HB24 := Lib.hid (HB23.out.trans (hb24.mono HB23.out.size))
  replace HY := Lib.hid (HY.out.below HY.out.lt hb24)
  replace HO := Lib.hid (HO.out.below HO.out.lt hb24)
  replace HN := Lib.hid (HN.out.below hb24)
  replace HD := Lib.hid (HD.out.below hb24)
  replace HFc := Lib.hid (fun j u h => below_cell hb24 (HFc.out j u h))
  have HS := Lib.hid hss
  clear hss
  clear HSe
  clear hb24
  have cHY0 := HY.out.cell 0 _ rfl
  have cHY1 := HY.out.cell 1 _ rfl
  have cHO0 := HO.out.cell 0 _ rfl
  have cHO1 := HO.out.cell 1 _ rfl
  go_wp2_with fail
  clear cHY0 cHY1 cHO0 cHO1
  refine (HCi.out _ _ HD.out).mono ?_
  rintro e w25 ⟨Ai, ci, rfl, hb25⟩
  have HB25 := Lib.hid (HB24.out.trans (hb25.mono HB24.out.size))
  replace HY := Lib.hid (HY.out.below HY.out.lt hb25)
  replace HO := Lib.hid (HO.out.below HO.out.lt hb25)
  replace HN := Lib.hid (HN.out.below hb25)
  replace HD := Lib.hid (HD.out.below hb25)
  replace HS := Lib.hid (HS.out.below hb25)
  replace HFc := Lib.hid (fun j u h => below_cell hb25 (HFc.out j u h))
  clear HCi
  clear hb25
  have cHY0 := HY.out.cell 0 _ rfl
  have cHY1 := HY.out.cell 1 _ rfl
  have cHO0 := HO.out.cell 0 _ rfl
  have cHO1 := HO.out.cell 1 _ rfl
  go_wp2_with fail
  clear cHY0 cHY1 cHO0 cHO1
  refine (HCn.out _ _ HD.out).mono ?_
  rintro e w26 ⟨vn, rfl, hb26⟩
  have HB26 := Lib.hid (HB25.out.trans (hb26.mono HB25.out.size))
  replace HY := Lib.hid (HY.out.below HY.out.lt hb26)
  replace HO := Lib.hid (HO.out.below HO.out.lt hb26)
  replace HN := Lib.hid (HN.out.below hb26)
  replace HS := Lib.hid (HS.out.below hb26)
  replace HFc := Lib.hid (fun j u h => below_cell hb26 (HFc.out j u h))
  have f0 := HFc.out 0 _ rfl
  have f1 : w26.cell? ⟨bf, of + 12 + 1, none⟩ = some (.string ⟨#[99, 117, 114]⟩) := HFc.out 1 _ rfl
  have f2 := HFc.out 2 _ rfl
  have f3 := HFc.out 3 _ rfl
  obtain ⟨hl1, hl2⟩ := HFl.out
  clear HCn HD HFc
  clear hb26
  have cHY0 := HY.out.cell 0 _ rfl
  have cHY1 := HY.out.cell 1 _ rfl
  have cHO0 := HO.out.cell 0 _ rfl
  have cHO1 := HO.out.cell 1 _ rfl
  go_wp2_with fail
  clear f0 f1 f2 f3 hl1 hl2 HFl
  clear cHY0 cHY1 cHO0 cHO1
  clear HO
  have HL := Lib.hid (Sl.new (s := 1) w26 9 1 1 #[.string ⟨#[108, 105, 111, 110]⟩] rfl (Nat.le_refl _) (by decide))
  have hb27 := below_alloc' w26 (.cells #[.string ⟨#[108, 105, 111, 110]⟩] 9)
  generalize w26.alloc (.cells #[.string ⟨#[108, 105, 111, 110]⟩] 9) = w27 at *
  have HB27 := Lib.hid (HB26.out.trans (hb27.mono HB26.out.size))
  replace HY := Lib.hid (HY.out.below HY.out.lt hb27)
  replace HN := Lib.hid (HN.out.below hb27)
  replace HS := Lib.hid (HS.out.below hb27)
  clear hb27
  refine (HEq.out _ _ [⟨#[108, 105, 111, 110]⟩] _ HS.out HL.out).mono ?_
  rintro e w28 ⟨rfl, hb28⟩
  have HB28 := Lib.hid (HB27.out.trans (hb28.mono HB27.out.size))
  replace HY := Lib.hid (HY.out.below HY.out.lt hb28)
  replace HN := Lib.hid (HN.out.below hb28)
  clear HS HL HEq
  clear hb28
  have cHY0 := HY.out.cell 0 _ rfl
  have cHY1 := HY.out.cell 1 _ rfl
  go_wp2_with fail
  clear cHY0 cHY1
  have HL1 := Lib.hid ((Sl.new (s := 1) w28 9 1 1 #[.string ⟨#[97, 100, 97]⟩] rfl (Nat.le_refl _) (by decide)).alloc (.cells #[.int .i64 5, .string ⟨#[97, 100, 97]⟩, .string ⟨#[]⟩, .int .i64 0, .int .i64 5, .string ⟨#[97, 100, 97]⟩, .string ⟨#[]⟩, .int .i64 91] 76))
  have HL2 := Lib.hid (Sl.new (s := 4) (w28.alloc (.cells #[.string ⟨#[97, 100, 97]⟩] 9)) 76 2 2 #[.int .i64 5, .string ⟨#[97, 100, 97]⟩, .string ⟨#[]⟩, .int .i64 0, .int .i64 5, .string ⟨#[97, 100, 97]⟩, .string ⟨#[]⟩, .int .i64 91] rfl (Nat.le_refl _) (by decide))
  have hb29 := (below_alloc' w28 (.cells #[.string ⟨#[97, 100, 97]⟩] 9)).alloc (by simp) (.cells #[.int .i64 5, .string ⟨#[97, 100, 97]⟩, .string ⟨#[]⟩, .int .i64 0, .int .i64 5, .string ⟨#[97, 100, 97]⟩, .string ⟨#[]⟩, .int .i64 91] 76)
  rw [World.size_alloc] at HL2
  have HB29 := Lib.hid (HB28.out.trans (hb29.mono HB28.out.size))
  replace HY := Lib.hid (HY.out.below HY.out.lt hb29)
  replace HN := Lib.hid (HN.out.below hb29)
  have HM := Lib.hid (show NetC _ (some ⟨w28.heap.size, 0, none⟩) 1 1 (some ⟨w28.heap.size + 1, 0, none⟩) 2 2 [nAda] (knA 91) from ⟨HL1.out, HL2.out⟩)
  clear hb29 HL1 HL2
  generalize (w28.alloc (.cells #[.string ⟨#[97, 100, 97]⟩] 9)).alloc (.cells #[.int .i64 5, .string ⟨#[97, 100, 97]⟩, .string ⟨#[]⟩, .int .i64 0, .int .i64 5, .string ⟨#[97, 100, 97]⟩, .string ⟨#[]⟩, .int .i64 91] 76) = w29 at *
  refine (HLi.out _ _ _ HM.out).mono ?_
  rintro e w30 ⟨vl, rfl, hb30⟩
  have HB30 := Lib.hid (HB29.out.trans (hb30.mono HB29.out.size))
  replace HY := Lib.hid (HY.out.below HY.out.lt hb30)
  replace HN := Lib.hid (HN.out.below hb30)
  clear HLi HM
  clear hb30
  have cHY0 := HY.out.cell 0 _ rfl
  have cHY1 := HY.out.cell 1 _ rfl
  go_wp2_with fail
  clear cHY0 cHY1
  have HL1 := Lib.hid ((Sl.new (s := 1) w30 9 1 1 #[.string ⟨#[97, 100, 97]⟩] rfl (Nat.le_refl _) (by decide)).alloc (.cells #[.int .i64 5, .string ⟨#[97, 100, 97]⟩, .string ⟨#[]⟩, .int .i64 0, .int .i64 5, .string ⟨#[97, 100, 97]⟩, .string ⟨#[]⟩, .int .i64 90] 76))
  have HL2 := Lib.hid (Sl.new (s := 4) (w30.alloc (.cells #[.string ⟨#[97, 100, 97]⟩] 9)) 76 2 2 #[.int .i64 5, .string ⟨#[97, 100, 97]⟩, .string ⟨#[]⟩, .int .i64 0, .int .i64 5, .string ⟨#[97, 100, 97]⟩, .string ⟨#[]⟩, .int .i64 90] rfl (Nat.le_refl _) (by decide))
  have hb31 := (below_alloc' w30 (.cells #[.string ⟨#[97, 100, 97]⟩] 9)).alloc (by simp) (.cells #[.int .i64 5, .string ⟨#[97, 100, 97]⟩, .string ⟨#[]⟩, .int .i64 0, .int .i64 5, .string ⟨#[97, 100, 97]⟩, .string ⟨#[]⟩, .int .i64 90] 76)
  rw [World.size_alloc] at HL2
  have HB31 := Lib.hid (HB30.out.trans (hb31.mono HB30.out.size))
  replace HY := Lib.hid (HY.out.below HY.out.lt hb31)
  replace HN := Lib.hid (HN.out.below hb31)
  have HM := Lib.hid (show NetC _ (some ⟨w30.heap.size, 0, none⟩) 1 1 (some ⟨w30.heap.size + 1, 0, none⟩) 2 2 [nAda] (knA 90) from ⟨HL1.out, HL2.out⟩)
  clear hb31 HL1 HL2
  generalize (w30.alloc (.cells #[.string ⟨#[97, 100, 97]⟩] 9)).alloc (.cells #[.int .i64 5, .string ⟨#[97, 100, 97]⟩, .string ⟨#[]⟩, .int .i64 0, .int .i64 5, .string ⟨#[97, 100, 97]⟩, .string ⟨#[]⟩, .int .i64 90] 76) = w31 at *
  refine (HCo.out _ _ _ HM.out).mono ?_
  rintro e w32 ⟨rfl, hb32⟩
  have HB32 := Lib.hid (HB31.out.trans (hb32.mono HB31.out.size))
  replace HY := Lib.hid (HY.out.below HY.out.lt hb32)
  replace HN := Lib.hid (HN.out.below hb32)
  clear HCo HM
  clear hb32
  have cHY0 := HY.out.cell 0 _ rfl
  have cHY1 := HY.out.cell 1 _ rfl
  go_wp2_with fail
  clear cHY0 cHY1
  refine (HC5.out _ _ _ HN.out).mono ?_
  rintro e w33 ⟨v5, rfl, hb33⟩
  have HB33 := Lib.hid (HB32.out.trans (hb33.mono HB32.out.size))
  replace HY := Lib.hid (HY.out.below HY.out.lt hb33)
  replace HN := Lib.hid (HN.out.below hb33)
  clear HC5
  clear hb33
  have cHY0 := HY.out.cell 0 _ rfl
  have cHY1 := HY.out.cell 1 _ rfl
  go_wp2_with fail
  clear cHY0 cHY1
  refine (HC4.out _ _ _ HN.out).mono ?_
  rintro e w34 ⟨v4, rfl, hb34⟩
  have HB34 := Lib.hid (HB33.out.trans (hb34.mono HB33.out.size))
  replace HY := Lib.hid (HY.out.below HY.out.lt hb34)
  replace HN := Lib.hid (HN.out.below hb34)
  clear HC4
  clear hb34
  have cHY0 := HY.out.cell 0 _ rfl
  have cHY1 := HY.out.cell 1 _ rfl
  go_wp2_with fail
  clear cHY0 cHY1
  have HL := Lib.hid (Sl.new (s := 1) w34 3 2 2 #[.int .i64 1, .int .i64 1] rfl (Nat.le_refl _) (by decide))
  have hb35 := below_alloc' w34 (.cells #[.int .i64 1, .int .i64 1] 3)
  generalize w34.alloc (.cells #[.int .i64 1, .int .i64 1] 3) = w35 at *
  have HB35 := Lib.hid (HB34.out.trans (hb35.mono HB34.out.size))
  replace HY := Lib.hid (HY.out.below HY.out.lt hb35)
  replace HN := Lib.hid (HN.out.below hb35)
  clear hb35
  refine (HWo.out _ _ _ _ HN.out HL.out).mono ?_
  rintro e w36 ⟨vw, rfl, hb36⟩
  have HB36 := Lib.hid (HB35.out.trans (hb36.mono HB35.out.size))
  replace HY := Lib.hid (HY.out.below HY.out.lt hb36)
  replace HN := Lib.hid (HN.out.below hb36)
  clear HWo HL
  clear hb36
  have cHY0 := HY.out.cell 0 _ rfl
  have cHY1 := HY.out.cell 1 _ rfl
  go_wp2_with fail
  clear cHY0 cHY1
  refine (HMe.out _ _ _ HN.out).mono ?_
  rintro e w37 ⟨vm, rfl, hb37⟩
  have HB37 := Lib.hid (HB36.out.trans (hb37.mono HB36.out.size))
  replace HY := Lib.hid (HY.out.below HY.out.lt hb37)
  clear HMe HN
  clear hb37
  have cHY0 := HY.out.cell 0 _ rfl
  have cHY1 := HY.out.cell 1 _ rfl
  clear cHY0 cHY1
  clear HY
  go_wp2_with fail
  have HL := Lib.hid (Sl.new (s := 1) w37 9 2 2 #[.string ⟨#[98]⟩, .string ⟨#[97]⟩] rfl (Nat.le_refl _) (by decide))
  have hb38 := below_alloc' w37 (.cells #[.string ⟨#[98]⟩, .string ⟨#[97]⟩] 9)
  generalize w37.alloc (.cells #[.string ⟨#[98]⟩, .string ⟨#[97]⟩] 9) = w38 at *
  have HB38 := Lib.hid (HB37.out.trans (hb38.mono HB37.out.size))
  clear hb38
  refine (HK1.out _ _ ⟨HL.out, Sl.nil0 _ _⟩).mono ?_
  rintro e w39 ⟨rfl, hb39⟩
  have HB39 := Lib.hid (HB38.out.trans (hb39.mono HB38.out.size))
  clear HK1 HL
  clear hb39
  go_wp2_with fail
  have HL := Lib.hid (cel_sl (s := 1) (n := 25) (Cel.new w39 9 (namesV knE25).toArray) (by kernel_rfl) (by decide))
  have hb40 := below_alloc' w39 (.cells (namesV knE25).toArray 9)
  generalize w39.alloc (.cells (namesV knE25).toArray 9) = w40 at *
  have HB40 := Lib.hid (HB39.out.trans (hb40.mono HB39.out.size))
  clear hb40
  refine (HK2.out _ _ ⟨HL.out, Sl.nil0 _ _⟩).mono ?_
  rintro e w41 ⟨rfl, hb41⟩
  have HB41 := Lib.hid (HB40.out.trans (hb41.mono HB40.out.size))
  clear HK2 HL
  clear hb41
  go_wp2
  go_ret
  exact ⟨rfl, HB41.out⟩
end Go.Proofs.YtdmcopjbckelmaaGreatDoor
