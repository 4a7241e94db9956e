/- MetroConvertAgree: the walk. -/
import Derived.Test.YtmibpncmebhbjaaDoorP10
import Derived.Test.YtmibpncmebhbjaaDoorAgr1
import Derived.Test.YtmibpncmebhbjaaDoorFou3
import Derived.Deep.RegionLaw
namespace Go.Proofs.YtmibpncmebhbjaaDoor
open Go Go.RowKit Go.Shelf
attribute [local go_sem] Oper.semAt_some rrV

def chP (ch : List Int) (k : Nat) : List Nat := (ch.take k).map m4
theorem chP_lt (ch : List Int) (k : Nat) : ∀ i ∈ chP ch k, i < 4 := by
  intro i hi
  obtain ⟨x, _, rfl⟩ := List.mem_map.1 hi
  exact m4_lt x
theorem chP_length (ch : List Int) {k : Nat} (h : k ≤ ch.length) : (chP ch k).length = k := by simp [chP]; omega
theorem chP_snoc {ch : List Int} {k : Nat} (h : k < ch.length) : chP ch (k + 1) = chP ch k ++ [m4 ch[k]] := by
  unfold chP
  rw [List.take_succ_eq_append_getElem h, List.map_append]; rfl
theorem nsF_append (p q : List Nat) : nsF (p ++ q) = nsF p ++ nsF q := by simp [nsF]
theorem nsF_length (p : List Nat) : (nsF p).length = p.length := by simp [nsF]
theorem nms_fl : nmsOf fl = nsF [0, 1, 2, 3] := rfl
theorem nms_get {i : Nat} (h : i < 4) : (namesV (nsF [0, 1, 2, 3]))[i]? = some (.string (nmF i)) := by
  have : i = 0 ∨ i = 1 ∨ i = 2 ∨ i = 3 := by omega
  rcases this with e | e | e | e <;> subst e <;> rfl
theorem namesV_get {p : List Nat} {j : Nat} (h : j < p.length) : (namesV (nsF p))[j]? = some (.string (nmF p[j])) := by simp [namesV, nsF, h]
section
variable {ops : Array Oper} {rest : List Oper} {o : Oper} {a : Act} {Q : Exit → Act → World → Prop} {w : World} {K : Act → World → Prop} {E : Prop}
theorem stepStr (s x : Operand) (hgd : o.guard = none) (ho : o.op = .call { callee := .builtin .append, args := #[s, x], argTypes := #[57, 57] })
    {base n : Nat} {v vx : Value} {xs news : List Value} (hs : a.eval s = v) (hx : a.eval x = vx) (hown : w.ownsRow base 9 1 v n xs) (hr : Sl w 1 vx news) (h1 : ∀ u ∈ news, u.oneCell' = true)
    {N : Nat} (hN : n + news.length = N) (hb : N ≤ 8796093022208) (hbase : base ≤ w.heap.size)
    (h : ∀ A c w', Appended base 9 1 v xs news w w' A N c → K (a.put o.dst (.slice A N c)) w') : if Region.wanted o (yielded ops a.tmps) = true then Oper.wp Tryd.prog o a w K Q else E := by
  obtain ⟨i, hi, hz0, hz1, hz2⟩ := info_parts infoStr
  exact step_app w hgd s x 57 ho base 9 i (.string ⟨#[]⟩) 1 16 Tryd.underlying57 hi hz0 hz1 hz2 rfl (by decide) v n xs hs hown vx news hx hr h1 N (by omega) (by omega) (by decide) hbase h
end

set_option maxRecDepth 100000 in
set_option maxHeartbeats 4000000 in
theorem convertAgree_any (l : List Lk) (v : Value) (ch : List Int) (u : Value) (w : World) (hz : Zw w) (hv : Sl w 6 v (lksV l)) (hbd : ∀ k ∈ l, LkBd k) (hu : Sl w 1 u (ch.map (Value.int .i64))) (hch : ∀ x ∈ ch, Bd x) :
    Calls Tryd.prog 11 #[v, u] w fun e w' => e = .returned (.bool true) ∧ Below w.heap.size w w' := by
  obtain ⟨A, c, rfl, hlc, hcm, hcell⟩ := hu.open1
  simp only [List.length_map] at hlc hcell ⊢
  have HC := Lib.hid hcell
  have HCH := Lib.hid hch
  have HF := Lib.hid (four_any l v w hz hv hbd)
  have HZ := Lib.hid (fun (w' : World) (hb : Below w.heap.size w w') => hz.below hb)
  have C9 := Lib.hid (fun (w' : World) (hb : Below w.heap.size w w') => works_any w' (hz.below hb))
  clear hcell hch hu hv hbd hz
  go_enter Tryd.func11, Tryd.ntmps11
  go_wp2_with fail
  go_fit HF.out
  rintro e w1 ⟨v1, v2, rfl, hl, hs, hb1⟩
  have HB1 := Lib.hid hb1
  have HN : Hid (∀ E st', newF fl (linksB l) = (E, st') → Calls Tryd.prog 35 #[v1, v2] w1 fun e w' => ∃ r, e = .returned (.tuple #[r, .int .i64 E]) ∧ Below w1.heap.size w1 w' ∧ (E ≠ 0 → r = .pointer none) ∧
      (E = 0 → ∃ Bk bm lv gv fv, r = .pointer (some ⟨Bk, 0, none⟩) ∧ BookO w' w1.heap.size Bk bm lv gv fv st')) := fun E st' h => newbook_any fl (linksB l) v1 v2 w1 hl hs E st' h
  have hnew := new_links l
  rcases hF : newF fl (linksB l) with ⟨E, st⟩
  rw [hF] at hnew
  simp only at hnew
  have HNB := Lib.hid (HN.out E st hF)
  clear hl hs hb1 HN hF HF
  go_wp2_with fail
  rcases hnew with ⟨rfl, hls, hgd, hsp⟩ | ⟨rfl, _⟩
  · go_fit HNB.out
    rintro e w2 ⟨r, rfl, hb2, _, hbk⟩
    obtain ⟨Bk, bm, lv, gv, fv, rfl, hbo⟩ := hbk rfl
    have HB2 := Lib.hid (below_then HB1.out hb2)
    have HBV := Lib.hid hbo.view
    have HG := Lib.hid hgd
    have HLS := Lib.hid hls
    have HSP := Lib.hid hsp
    clear hbk hbo hb2 hgd hls hsp HNB
    have HNM : Hid (∀ w', Below w2.heap.size w2 w' → Calls Tryd.prog 59 #[.pointer (some ⟨Bk, 0, none⟩)] w' fun e w'' => ∃ nb no nc, e = .returned (.slice (some ⟨nb, no, none⟩) 4 nc) ∧ 4 ≤ nc ∧ (∀ i, i < 4 → w''.cell? ⟨nb, no + i, none⟩ = some (.string (nmF i))) ∧ Below w'.heap.size w' w'') := fun w' hb => by
      refine (names_any Bk bm lv gv fv st w' (HBV.out.below hb) HG.out).mono fun e w'' h => ?_
      obtain ⟨v, rfl, hs, hb⟩ := h
      rw [HLS.out, nms_fl] at hs
      obtain ⟨A', n', c', rfl, hn', hc', _, hcl⟩ := hs.open2 (by decide)
      obtain rfl : n' = 4 := by have : (namesV (nsF [0, 1, 2, 3])).length = 4 := rfl; omega
      obtain ⟨nb, no, rfl, _, hce⟩ := hcl (by decide)
      exact ⟨nb, no, c', rfl, hc', fun i hi => hce i _ (nms_get hi), hb⟩
    go_wp2_with fail
    go_fit (HNM.out w2 (Below.refl _ _))
    rintro e w3 ⟨nb, no, nc, rfl, hnc, _, hb3⟩
    have HB3 := Lib.hid hb3
    clear hb3
    go_wp2
    go_loopw [9, 10] (fun nv i wr => ∃ k : Nat, i = .int .i64 k ∧ k ≤ ch.length ∧ k ≤ 12 ∧ wr.ownsRow w3.heap.size 9 1 nv k (namesV (nsF (chP ch k))) ∧ Hid (Below w3.heap.size w3 wr)) (fun _ i _ => ch.length - (intOf i).toNat)
    case atStart => exact ⟨0, rfl, by omega, by omega, World.ownsRow_nil _ _ _ _, Below.refl _ _⟩
    case round =>
      obtain ⟨k, rfl, hk, hk12, hown, hB⟩ := hrel
      obtain ⟨A1, c1, rfl, hown⟩ := own_shape hown
      have HO := Lib.hid hown
      by_cases hgo : k < ch.length ∧ k < 12
      · obtain ⟨hlt, h12⟩ := hgo
        have d2 : decide ((k : Int) < 12) = true := decide_eq_true (by omega)
        obtain ⟨ad, rfl, q0⟩ := HC.out k (.int .i64 ch[k]) (by rw [List.getElem?_map, List.getElem?_eq_getElem hlt]; rfl)
        have hb23 := below_then HB3.out hB.out
        have HBW := Lib.hid hb23
        have e0 := below_cell (below_then HB2.out hb23) q0
        have HE : Hid (∀ w', Below wr.heap.size wr w' → w'.cell? (ad.add k) = some (.int .i64 ch[k])) := fun w' hb => below_cell hb e0
        have hbk := HCH.out ch[k] (List.getElem_mem _)
        have HS := Lib.hid (chP_snoc hlt)
        generalize ch[k] = x at *
        have KX := Lib.hid (fun w' => bring4 x w' hbk)
        have hm := m4_lt x
        generalize m4 x = m at *
        have k1 : (0 : Int) ≤ (k : Int) := by omega
        have k2 : (k : Int) < (ch.length : Int) := by omega
        have k3 : (0 : Int) ≤ (m : Int) := by omega
        have k4 : (m : Int) < 4 := by omega
        have hsz := hB.out.size
        have HB := hB
        have hw0 := Lib.hid (Below.refl wr.heap.size wr)
        have Q0 := Lib.hid q0
        clear hb23 q0 hbk hown hB
        go_wp2_with fail
        go_region_law (first
          | (go_simp; go_at_call 59; refine (HNM.out _ (below_drew HBW.out)).mono ?_; rintro e w4 ⟨nb4, no4, nc4, rfl, hnc4, hn4, hb4⟩; have hB2 : Below wr.heap.size wr w4 := below_undrew (show Below wr.heap.size wr.drew w4 from hb4); have hnm := hn4 m hm; have hB2s := hB2.size; have e4 := below_cell hB2 e0; have HB4 := Lib.hid hB2; clear hn4 hb4 hB2)
          | (go_simp; go_at_call 36; refine (KX.out _).mono ?_; rintro e w' ⟨rfl, rfl⟩)
          | (refine stepStr (.tmp 59) (.tmp 69) rfl rfl (by rfl) (by rfl) (own_alloc (o := .cells #[.string (nmF m)] 9) (own_below HO.out HB4.out)) (Sl.new (s := 1) _ 9 1 1 #[.string (nmF m)] rfl (Nat.le_refl _) (by decide)) (by simp [Value.oneCell']) (N := k + 1) (by simp) (by omega) (by simp; omega) ?_; intro A3 c3 w5 hap; have hA := own_alloc (o := .cells #[.string (nmF m)] 9) (own_below HO.out HB4.out); have hBn : Below w3.heap.size w3 w5 := ((HB.out.trans (HB4.out.mono HB.out.size)).alloc (by omega) (.cells #[.string (nmF m)] 9)).grown hap.grown (by simp; omega) (fun g hg => own_ge hA hg); have HBN := Lib.hid hBn; have HOW := Lib.hid hap.own; clear hA hap hBn))
        all_goals (
          go_wp2
          go_roundw
          case rel => exact ⟨k + 1, by go_num, hlt, by omega, by rw [HS.out, nsF_append, namesV_append]; exact HOW.out, HBN⟩
          case measure => simp [intOf]; omega)
      · have hgo' : ch.length ≤ k ∨ (k < ch.length ∧ decide ((k : Int) < 12) = false) := by
          rcases Nat.lt_or_ge k ch.length with h | h
          · exact .inr ⟨h, decide_eq_false (by omega)⟩
          · exact .inl h
        have hl := chP_length ch hk
        have h4 := chP_lt ch k
        have HP4 := Lib.hid h4
        generalize chP ch k = p at *
        obtain rfl : p.length = k := hl
        have HBR := Lib.hid (below_then HB3.out hB.out)
        clear hown hgo hB h4
        obtain ⟨V, hV⟩ : ∃ V : World, V = wr := ⟨_, rfl⟩
        subst hV
        have KF : Hid (∀ a b, a < 4 → b < 4 → ∀ w', Below V.heap.size V w' → Calls Tryd.prog 41 #[.pointer (some ⟨Bk, 0, none⟩), .string (nmF a), .string (nmF b)] w' fun e w'' => e = .returned (rrV (facE st a b)) ∧ Below w'.heap.size w' w'') := fun a b ha hb w' hw => by
          rw [← factor2 st HLS.out ha hb]
          exact factor_any Bk bm lv gv fv st _ _ w' (HBV.out.below (HBR.out.trans (hw.mono HBR.out.size))) HG.out
        have KC : Hid (∀ w', Below V.heap.size V w' → Calls Tryd.prog 44 #[.pointer (some ⟨Bk, 0, none⟩), .slice A1 p.length c1] w' fun e w'' => e = .returned (rrV (chainF st (nsF p))) ∧ Below w'.heap.size w' w'') := fun w' hw =>
          chain_any Bk bm lv gv fv st (nsF p) _ w' (HBV.out.below (HBR.out.trans (hw.mono HBR.out.size))) HG.out (Sl.of_own (own_below HO.out hw))
        have KW : Hid (∀ w', Below V.heap.size V w' → Calls Tryd.prog 27 #[] w' fun e w'' => e = .returned (.bool true) ∧ Below w'.heap.size w' w'') := fun w' hw => C9.out w' (below_then HB2.out (HBR.out.trans (hw.mono HBR.out.size)))
        have HBQ := Lib.hid (below_then HB2.out HBR.out)
        have hp12 : p.length ≤ 12 := hk12
        have HAP := Lib.hid (fun k hk hg => chain_apart st HLS.out HP4.out (show 1 ≤ p.length by omega) (show p.length ≤ 64 by omega) (k := k) hk hg)
        have HJO := Lib.hid (fun (h1 : 1 ≤ p.length) hg => chain_joined st HLS.out HSP.out HG.out HP4.out h1 (show p.length ≤ 64 by omega) hg)
        clear hk hk12
        rcases hgo' with hge | ⟨hlt12, d12⟩
        all_goals (
          go_upto_region 12 with fail
          by_cases hp0 : p.length = 0
          · have b0 : ((p.length : Int) == 0) = true := by simp [hp0]
            clear hp0
            go_wp2_with fail
            go_fit (KW.out V (Below.refl _ _))
            rintro e w4 ⟨rfl, hb4⟩
            go_wp2
            go_ret
            exact ⟨rfl, below_then HBQ.out hb4⟩
          · have b0 : ((p.length : Int) == 0) = false := by simpa using hp0
            have hp1 : 1 ≤ p.length := by omega
            obtain ⟨L, hL⟩ : ∃ L, L + 1 = p.length := ⟨p.length - 1, by omega⟩
            obtain ⟨A9, c9, e9, _, _, f9⟩ := own_slice HO.out
            obtain ⟨rfl, rfl⟩ : A1 = A9 ∧ c1 = c9 := by injection e9 with h1 h2 h3; exact ⟨h1, h3⟩
            obtain ⟨gb, rfl, _, _⟩ := f9 (by omega)
            have HCEL : Hid (∀ w', Below V.heap.size V w' → ∀ j (hj : j < p.length), w'.cell? ⟨gb, j, none⟩ = some (.string (nmF p[j]))) := fun w' hw j hj => by
              rw [(own_below HO.out hw).cellAt j (by omega)]; exact namesV_get hj
            have HL := Lib.hid hL
            clear hp0 e9 f9 hL
            go_wp2
            go_loopw [11] (fun i wr => ∃ k : Nat, i = .int .i64 k ∧ 1 ≤ k ∧ k ≤ p.length ∧ Hid (∀ j, j + 1 < k → grpAt st (p.getD j 0) = grpAt st (p.getD (j + 1) 0)) ∧ Hid (Below V.heap.size V wr)) (fun i _ => p.length - (intOf i).toNat)
            case atStart => exact ⟨1, rfl, by omega, by omega, fun j h => by omega, Below.refl _ _⟩
            case round =>
              obtain ⟨k, rfl, hk1, hkp, hgr, hB⟩ := hrel
              by_cases hlt : k < p.length
              · obtain ⟨K, hK⟩ : ∃ K, K + 1 = k := ⟨k - 1, by omega⟩
                have c1 := HCEL.out wr hB.out K (by omega)
                have c2 := HCEL.out wr hB.out k hlt
                have hpa := HP4.out p[K] (List.getElem_mem _)
                have hpb := HP4.out p[k] (List.getElem_mem _)
                have HGA := Lib.hid (show p.getD K 0 = p[K] by simp [List.getD, show K < p.length by omega])
                have HGB := Lib.hid (show p.getD k 0 = p[k] by simp [List.getD, hlt])
                have HCE : Hid (∀ w', Below wr.heap.size wr w' → w'.cell? ⟨gb, K, none⟩ = some (.string (nmF p[K])) ∧ w'.cell? ⟨gb, k, none⟩ = some (.string (nmF p[k]))) := fun w' hw => ⟨below_cell hw c1, below_cell hw c2⟩
                have KF1 := Lib.hid (fun w' hw => KF.out p[K] p[k] hpa hpb w' hw)
                have hk2 : (0 : Int) ≤ (K : Int) := by omega
                have hk3 : (K : Int) < (p.length : Int) := by omega
                have hk4 : (k : Int) < (p.length : Int) := by omega
                have hk5 : IntKind.i64.wrap ((k : Int) - 1) = (K : Int) := by rw [IntKind.wrap_i64]; omega
                have HK := Lib.hid hK
                have HAP1 := Lib.hid (fun hg => HAP.out K (show K + 1 < p.length by omega) hg)
                rw [HK.out, HGA.out, HGB.out] at HAP1
                have hfe := facE_apart (st := st) (a := p[K]) (b := p[k])
                generalize p[K] = pa at *
                generalize p[k] = pb at *
                have HFE := Lib.hid hfe
                generalize facE st pa pb = fe at *
                obtain ⟨fN, fD, fE⟩ := fe
                simp only at HFE
                have hsz := hB.out.size
                have HB := hB
                have hw0 := Lib.hid (Below.refl wr.heap.size wr)
                clear hK hpa hpb hfe hB
                go_upto_region 17 with fail
                go_cut [13] (fun t13 wx => ∃ (Wx : World), Wx = wx ∧ t13 = .int .i64 fE ∧ Below wr.heap.size wr wx)
                case first =>
                  go_region_held3 (fun w' => w'.cell? ⟨gb, K, none⟩ = some (.string (nmF pa)) ∧ w'.cell? ⟨gb, k, none⟩ = some (.string (nmF pb))) (first | exact HCE.out _ (by repeat (first | exact HBW.out | exact hw0.out | refine below_drew ?_ | refine Below.setCell ?_ (by first | omega | (simp; done) | (simp; omega)) _ | refine Below.alloc ?_ (by first | omega | (simp; done) | (simp; omega)) _)) | go_keep)
                    (first
                    | (go_at_call 41; refine (KF1.out _ (HB.out.trans (Below.mono (by repeat (first | exact hw0.out | refine below_drew ?_ | refine Below.alloc ?_ (by first | omega | (simp; done) | (simp; omega)) _)) hsz))).mono ?_; rintro e w4 ⟨rfl, hb4⟩; have hB2 := (show Below wr.heap.size wr w4 from Below.trans (by repeat (first | exact hw0.out | refine below_drew ?_ | refine Below.alloc ?_ (by first | omega | (simp; done) | (simp; omega)) _)) (hb4.mono (by simp))); have hB2z := hB2.size; have HBW := Lib.hid hB2; (first | (have hy := (show Cel ((wr.alloc (.cells #[.int .i64 0, .int .i64 0] 23)).drew) wr.heap.size 23 #[.int .i64 0, .int .i64 0] from Cel.new wr _ _).below (by simp) hb4; have z0 := hy.cell 0 (.int .i64 0) rfl; have z1 := hy.cell 1 (.int .i64 0) rfl; have y0 := hy.frozen 0; have y1 := hy.frozen 1; clear hy) | skip); clear hb4 hB2))
                  all_goals (
                    go_wp2
                    go_meet
                    exact ⟨_, rfl, rfl, by repeat (first | exact HBW.out | refine below_drew ?_ | refine Below.setCell ?_ (by first | omega | (simp; done) | (simp; omega)) _ | refine Below.alloc ?_ (by first | omega | (simp; done) | (simp; omega)) _)⟩)
                case rest =>
                  obtain ⟨U, rfl, rfl, hbU⟩ := hcut
                  have HBU := Lib.hid (HB.out.trans (hbU.mono hsz))
                  clear hbU HCE hw0 c1 c2
                  by_cases hg : grpAt st pa = grpAt st pb
                  · have b13 : (fE == 13) = false := by
                      rw [beq_eq_false_iff_ne]
                      exact fun e => HFE.out.1 e hg
                    have HGR : Hid (∀ j, j + 1 < k + 1 → grpAt st (p.getD j 0) = grpAt st (p.getD (j + 1) 0)) := fun j hj => by
                      by_cases e : j = K
                      · subst e
                        rw [HK.out, HGA.out, HGB.out]; exact hg
                      · have := HK.out
                        exact hgr.out j (by omega)
                    clear hg
                    go_wp2
                    go_roundw
                    case rel => exact ⟨k + 1, by go_num, by omega, hlt, HGR, HBU⟩
                    case measure => simp [intOf]; omega
                  · have b13 : (fE == 13) = true := by
                      rw [beq_iff_eq]
                      exact HFE.out.2 hg
                    have HC13 := Lib.hid (HAP1.out hg)
                    clear hg
                    have hc := KC.out U HBU.out
                    rw [HC13.out] at hc
                    go_wp2_with fail
                    go_fit hc
                    clear hc
                    rintro e w5 ⟨rfl, hb5⟩
                    have HB5 := Lib.hid (HBU.out.trans ((hb5.alloc hb5.size (.cells #[.int .i64 0, .int .i64 0] 23)).mono HBU.out.size))
                    clear hb5
                    go_wp2_with fail
                    go_fit (KW.out _ HB5.out)
                    rintro e w6 ⟨rfl, hb6⟩
                    go_wp2
                    go_ret
                    exact ⟨rfl, below_then HBQ.out (below_then HB5.out hb6)⟩
              · obtain ⟨hch, hgl⟩ := HJO.out hp1 (fun j hj => hgr.out j (by omega))
                have HL1 := HL.out
                rw [show p.length - 1 = L by omega] at hch hgl
                rw [show p.getD 0 0 = p[0] by simp [List.getD, show 0 < p.length by omega], show p.getD L 0 = p[L] by simp [List.getD, show L < p.length by omega]] at hch hgl
                have hfe := facE_err hgl
                have KF1 := Lib.hid (fun w' hw => KF.out p[0] p[L] (HP4.out _ (List.getElem_mem _)) (HP4.out _ (List.getElem_mem _)) w' hw)
                have HCE : Hid (∀ w', Below V.heap.size V w' → w'.cell? ⟨gb, 0, none⟩ = some (.string (nmF p[0])) ∧ w'.cell? ⟨gb, L, none⟩ = some (.string (nmF p[L]))) := fun w' hw => ⟨HCEL.out w' hw 0 (by omega), HCEL.out w' hw L (by omega)⟩
                have hc := fun w' hw => KC.out w' hw
                rw [hch] at hc
                have KC1 := Lib.hid hc
                have hl2 : (0 : Int) ≤ (L : Int) := by omega
                have hl3 : (L : Int) < (p.length : Int) := by omega
                have hl4 : (0 : Int) < (p.length : Int) := by omega
                have hl6 : 0 < p.length := by omega
                have hl5 : IntKind.i64.wrap ((p.length : Int) - 1) = (L : Int) := by rw [IntKind.wrap_i64]; omega
                generalize p[0] = pa at *
                generalize p[L] = pb at *
                generalize facE st pa pb = fe at *
                obtain ⟨fN, fD, fE⟩ := fe
                simp only at hfe
                have hfb : (fE == 0) = true ∨ ((fE == 0) = false ∧ (fE == 6) = true) := by
                  rcases hfe with e | e <;> subst e
                  · exact .inl rfl
                  · exact .inr ⟨rfl, rfl⟩
                clear hc hch hgl HL1 hfe
                have hsz := hB.out.size
                have HB := hB
                clear hB
                go_wp2_with fail
                go_fit (KC1.out wr HB.out)
                rintro e w5 ⟨rfl, hb5⟩
                have HB5 := Lib.hid (HB.out.trans ((hb5.alloc hb5.size (.cells #[.int .i64 fN, .int .i64 fD] 23)).mono hsz))
                have HX5 := Lib.hid (Cel.new w5 23 #[.int .i64 fN, .int .i64 fD])
                clear hb5
                obtain ⟨q0, q1⟩ := HCE.out _ HB5.out
                have hsz5 := HB5.out.size
                have HBX := HB5
                obtain ⟨X, hX⟩ : ∃ X, w5.alloc (.cells #[.int .i64 fN, .int .i64 fD] 23) = X := ⟨_, rfl⟩
                have hXl : w5.heap.size < X.heap.size := by rw [← hX]; simp
                have hVX : V.heap.size ≤ X.heap.size := by rw [← hX]; exact hsz5
                go_upto_region 22 with fail
                rw [hX] at HBX HX5 HB5 q0 q1
                clear hX hsz5
                have HCX : Hid (∀ w', Below X.heap.size X w' → w'.cell? ⟨gb, 0, none⟩ = some (.string (nmF pa)) ∧ w'.cell? ⟨gb, L, none⟩ = some (.string (nmF pb))) := fun w' hw => ⟨below_cell hw q0, below_cell hw q1⟩
                have hw0 := Lib.hid (Below.refl X.heap.size X)
                clear HB HL hsz KC1
                go_cut [17, 18] (fun t17 t18 wx => ∃ (Wx : World) (B : Nat), Wx = wx ∧ t17 = .pointer (some ⟨B, 0, none⟩) ∧ t18 = .int .i64 fE ∧ Cel wx B 23 #[.int .i64 fN, .int .i64 fD] ∧ Below X.heap.size X wx)
                case first =>
                  go_region_held3 (fun w' => w'.cell? ⟨gb, 0, none⟩ = some (.string (nmF pa)) ∧ w'.cell? ⟨gb, L, none⟩ = some (.string (nmF pb))) (first | exact HCX.out _ (by repeat (first | exact HBW.out | exact hw0.out | refine below_drew ?_ | refine Below.setCell ?_ (by first | omega | (simp; done) | (simp; omega)) _ | refine Below.alloc ?_ (by first | omega | (simp; done) | (simp; omega)) _)) | go_keep)
                    (first
                    | (go_at_call 41; refine (KF1.out _ (HBX.out.trans (Below.mono (by repeat (first | exact hw0.out | refine below_drew ?_ | refine Below.alloc ?_ (by first | omega | (simp; done) | (simp; omega)) _)) hVX))).mono ?_; rintro e w6 ⟨rfl, hb6⟩; have hB2 := (show Below X.heap.size X w6 from Below.trans (by repeat (first | exact hw0.out | refine below_drew ?_ | refine Below.alloc ?_ (by first | omega | (simp; done) | (simp; omega)) _)) (hb6.mono (by simp))); have hB2z := hB2.size; have HBW := Lib.hid hB2; (first | (have hy := (show Cel ((X.alloc (.cells #[.int .i64 0, .int .i64 0] 23)).drew) X.heap.size 23 #[.int .i64 0, .int .i64 0] from Cel.new X _ _).below (by simp) hb6; have z0 := hy.cell 0 (.int .i64 0) rfl; have z1 := hy.cell 1 (.int .i64 0) rfl; have y0 := hy.frozen 0; have y1 := hy.frozen 1; have HYY := Lib.hid hy; clear hy) | skip); clear hb6 hB2))
                  all_goals (
                    go_wp2
                    go_meet
                    first
                    | exact ⟨_, w6.heap.size, rfl, rfl, rfl, Cel.new w6 _ _, HBW.out.alloc HBW.out.size _⟩
                    | exact ⟨_, X.heap.size, rfl, rfl, rfl, HYY.out.set2 _ _, (HBW.out.setCell (p := ⟨X.heap.size, 0, none⟩) (Nat.le_refl _) _).setCell (p := ⟨X.heap.size, 1, none⟩) (Nat.le_refl _) _⟩)
                case rest =>
                  obtain ⟨U, B, rfl, rfl, rfl, hY, hbU⟩ := hcut
                  have hX6 := HX5.out.below hXl hbU
                  have r0 := hX6.cell 0 (.int .i64 fN) rfl
                  have r1 := hX6.cell 1 (.int .i64 fD) rfl
                  have r2 := hY.cell 0 (.int .i64 fN) rfl
                  have r3 := hY.cell 1 (.int .i64 fD) rfl
                  have HBU := Lib.hid (HBX.out.trans (hbU.mono hVX))
                  clear hX6 hY hbU q0 q1 HCX hw0
                  rcases hfb with hf0 | ⟨hf0, hf6⟩
                  all_goals (
                    go_wp2_with fail
                    go_fit (KW.out U HBU.out)
                    rintro e w7 ⟨rfl, hb7⟩
                    go_wp2
                    go_ret
                    exact ⟨rfl, below_then HBQ.out (below_then HBU.out hb7)⟩)
        )
  · go_fit HNB.out
    rintro e w2 ⟨r, rfl, hb2, hno, _⟩
    obtain rfl := hno (by decide)
    have HB2 := Lib.hid (below_then HB1.out hb2)
    clear hno hb2 HNB
    go_wp2_with fail
    go_fit (C9.out w2 HB2.out)
    rintro e w3 ⟨rfl, hb3⟩
    go_wp2
    go_ret
    exact ⟨rfl, below_then HB2.out hb3⟩
end Go.Proofs.YtmibpncmebhbjaaDoor
