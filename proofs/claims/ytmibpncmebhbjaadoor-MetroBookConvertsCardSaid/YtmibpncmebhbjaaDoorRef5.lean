/- The walks of CopyLadder and SameLadder of the reference. -/
import Derived.Test.YtmibpncmebhbjaaDoorRef4
namespace Go.Proofs.YtmibpncmebhbjaaDoor
open Go Go.RowKit Go.Shelf
attribute [local go_sem] Oper.semAt_some

section
variable {a : Act} {w : World} {ops : Array Oper} {o : Oper} {Q : Exit → Act → World → Prop} {K : Act → World → Prop} {E : Prop}
theorem stepUnitB (s x : Operand) (hgd : o.guard = none) (ho : o.op = .call { callee := .builtin .append, args := #[s, x], argTypes := #[31, 31] })
    {base n : Nat} {v vx : Value} {xs news : List Value} (hs : a.eval s = v) (hx : a.eval x = vx) (hown : w.ownsRow base 78 2 v n xs) (hr : Sl w 2 vx news) (h1 : ∀ u ∈ news, u.oneCell' = true)
    {N : Nat} (hN : n * 2 + news.length = N * 2) (hb : N * 24 ≤ 140737488355328) (hbase : base ≤ w.heap.size)
    (h : ∀ A c w', Appended base 78 2 v xs news w w' A N c → K (a.put o.dst (.slice A N c)) w') : if Region.wanted o (yielded ops a.tmps) = true then Oper.wp Tryd.prog o a w K Q else E := by
  obtain ⟨i, hi, hz0, hz1, hz2⟩ := info_parts infoUnit
  exact step_app w hgd s x 31 ho base 78 i (.agg #[.string ⟨#[]⟩, .int .i64 0]) 2 24 Tryd.underlying31 hi hz0 hz1 hz2 rfl (by decide) v n xs hs hown vx news hx hr h1 N hN hb (by decide) hbase h
end

set_option maxRecDepth 100000 in
set_option maxHeartbeats 1000000 in
theorem copyLadder_any (nm : ByteArray) (A : Option Addr) (c : Nat) (us : List Un) (w : World) (hsl : Sl w 2 (.slice A us.length c) (unitsV us)) (hlen : us.length * 24 ≤ 140737488355328) :
    Calls Tryd.prog 28 #[.agg #[.string nm, .slice A us.length c]] w fun e w' => ∃ A' c', e = .returned (.agg #[.string nm, .slice A' us.length c']) ∧ Below w.heap.size w w' ∧ w'.ownsRow w.heap.size 78 2 (.slice A' us.length c') us.length (unitsV us) := by
  have Y0 := (Cel.new w 33 #[.string nm, .slice A us.length c]).alloc (.cells #[.string ⟨#[]⟩, .slice none 0 0] 33)
  have Y1 := Cel.new (w.alloc (.cells #[.string nm, .slice A us.length c] 33)) 33 #[.string ⟨#[]⟩, .slice none 0 0]
  simp only [World.size_alloc] at Y1
  have hw0 : Below w.heap.size w ((w.alloc (.cells #[.string nm, .slice A us.length c] 33)).alloc (.cells #[.string ⟨#[]⟩, .slice none 0 0] 33)) := (below_alloc' _ _).alloc (by simp) _
  obtain ⟨W, hW⟩ : ∃ W, (w.alloc (.cells #[.string nm, .slice A us.length c] 33)).alloc (.cells #[.string ⟨#[]⟩, .slice none 0 0] 33) = W := ⟨_, rfl⟩
  rw [hW] at Y0 Y1 hw0
  have HS := Lib.hid (hsl.below hw0)
  have HY0 := Lib.hid Y0
  have HY1 := Lib.hid Y1
  have HW0 := Lib.hid hw0
  have h0 := Y0.cell 0 (.string nm) rfl
  have h1 := Y0.cell 1 (.slice A us.length c) rfl
  have h2 := Y1.frozen 0
  have h3 := Y1.frozen 1
  have hl := Y1.lt
  have hle := hw0.size
  have HUl := Lib.hid (unitsV_length us)
  clear hsl Y0 Y1 hw0
  go_enter Tryd.func28, Tryd.ntmps28
  go_upto_region 2 with fail
  go_region_held3 (fun w' => w'.cell? ⟨w.heap.size, 0, none⟩ = some (.string nm) ∧ w'.cell? ⟨w.heap.size, 1, none⟩ = some (.slice A us.length c))
    (first | go_keep | exact ⟨(HY0.out.below HY0.out.lt hbl).cell 0 _ rfl, (HY0.out.below HY0.out.lt hbl).cell 1 _ rfl⟩) (first
    | (refine stepUnitB (.tmp 6) (.tmp 8) rfl rfl (by rfl) (by rfl) (World.ownsRow_nil _ W.heap.size _ _) HS.out.drew (unitsV_one _) (N := us.length) (by rw [HUl.out]; omega) hlen (by exact Nat.le_refl _) ?_; intro A1 c1 w1 hap; have hbl : Below W.heap.size W w1 := below_grown (grown_undrew hap.grown) (by simp [Value.ownBlock]); have y5 := HY1.out.below HY1.out.lt hbl; have q0 := y5.cell 0 (.string ⟨#[]⟩) rfl; have q1 := y5.cell 1 (.slice none 0 0) rfl; have q2 := y5.frozen 0; have q3 := y5.frozen 1; have HAP := Lib.hid hap; clear hap))
  go_wp2
  have k5 := (HY1.out.below HY1.out.lt hbl).set2 (.string nm) (.slice A1 us.length c1)
  have f0 := k5.cell 0 (.string nm) rfl
  have f1 := k5.cell 1 (.slice A1 us.length c1) rfl
  have ho := own_base (own_other (own_other HAP.out.own ⟨w.heap.size + 1, 0, none⟩ hl (.string nm)) ⟨w.heap.size + 1, 1, none⟩ hl (.slice A1 us.length c1)) hle
  exact bodyPost_ret (v := .agg #[.string nm, .slice A1 us.length c1]) (by simp [results, Tryd.results28, go_sem, f0, f1]) rfl
    ⟨A1, c1, rfl, ((below_then HW0.out hbl).setCell (p := ⟨w.heap.size + 1, 0, none⟩) (by simp) _).setCell (p := ⟨w.heap.size + 1, 1, none⟩) (by simp) _, by simpa using ho⟩

set_option maxRecDepth 100000 in
set_option maxHeartbeats 1000000 in
theorem sameLadder_yes (nm : ByteArray) (A A' : Option Addr) (c c' : Nat) (us : List Un) (w : World) (ha : Sl w 2 (.slice A us.length c) (unitsV us)) (hb : Sl w 2 (.slice A' us.length c') (unitsV us)) :
    Calls Tryd.prog 33 #[.agg #[.string nm, .slice A us.length c], .agg #[.string nm, .slice A' us.length c']] w fun e w' => e = .returned (.bool true) ∧ Below w.heap.size w w' := by
  obtain ⟨_, _, _, e, _, hmc, hcm, hcl⟩ := ha.open2 (by decide)
  cases e
  obtain ⟨_, _, _, e, _, hmc', hcm', hcl'⟩ := hb.open2 (by decide)
  cases e
  have Y0 := (Cel.new w 33 #[.string nm, .slice A us.length c]).alloc (.cells #[.string nm, .slice A' us.length c'] 33)
  have Y1 := Cel.new (w.alloc (.cells #[.string nm, .slice A us.length c] 33)) 33 #[.string nm, .slice A' us.length c']
  simp only [World.size_alloc] at Y1
  have hw0 : Below w.heap.size w ((w.alloc (.cells #[.string nm, .slice A us.length c] 33)).alloc (.cells #[.string nm, .slice A' us.length c'] 33)) := (below_alloc' _ _).alloc (by simp) _
  obtain ⟨W, hW⟩ : ∃ W, (w.alloc (.cells #[.string nm, .slice A us.length c] 33)).alloc (.cells #[.string nm, .slice A' us.length c'] 33) = W := ⟨_, rfl⟩
  rw [hW] at Y0 Y1 hw0
  have HY0 := Lib.hid Y0
  have HY1 := Lib.hid Y1
  have HW0 := Lib.hid hw0
  have HC := Lib.hid hcl
  have HC' := Lib.hid hcl'
  have h0 := Y0.cell 0 (.string nm) rfl
  have h1 := Y0.cell 1 (.slice A us.length c) rfl
  have h2 := Y1.cell 0 (.string nm) rfl
  have h3 := Y1.cell 1 (.slice A' us.length c') rfl
  clear ha hb hcl hcl' Y0 Y1 hw0
  go_enter Tryd.func33, Tryd.ntmps33
  go_wp2
  clear h0 h1 h2 h3
  go_loopw [5] (fun t wr => ∃ k : Nat, t = .int .i64 k ∧ k ≤ us.length ∧ Below W.heap.size W wr) (fun t _ => us.length - (intOf t).toNat)
  case atStart => exact ⟨0, rfl, by omega, Below.refl _ _⟩
  case round =>
    obtain ⟨k, rfl, hk, hB⟩ := hrel
    have c0 := (HY0.out.below HY0.out.lt hB).cell 1 (.slice A us.length c) rfl
    have c1 := (HY1.out.below HY1.out.lt hB).cell 1 (.slice A' us.length c') rfl
    have hBw := below_then HW0.out hB
    by_cases hlt : k < us.length
    · obtain ⟨b, o, e, hb, hce⟩ := HC.out (by omega)
      subst e
      obtain ⟨b', o', e, hb', hce'⟩ := HC'.out (by omega)
      subst e
      obtain ⟨g0, g1⟩ := unitsV_get hlt
      have e0 := below_cell hBw (hce _ _ g0)
      have e1 := below_cell hBw (hce _ _ g1)
      have e2 := below_cell hBw (hce' _ _ g0)
      have e3 := below_cell hBw (hce' _ _ g1)
      rw [← Nat.add_assoc] at e1 e3
      generalize us[k] = u at *
      clear hce hce' g0 g1
      go_wp2
      go_quiet (fail)
      go_wp2
      go_roundw
      case rel => exact ⟨k + 1, by simp, hlt, below_drewN hB _⟩
      case measure => simp [intOf]; omega
    · go_wp2
      go_ret
      exact ⟨rfl, hBw⟩
end Go.Proofs.YtmibpncmebhbjaaDoor
