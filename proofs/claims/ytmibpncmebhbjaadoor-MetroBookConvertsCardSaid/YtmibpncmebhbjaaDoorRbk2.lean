/- The reference's search: the walk of way. -/
import Derived.Test.YtmibpncmebhbjaaDoorRbk1
import Derived.Deep.DeepCutAuto
namespace Go.Proofs.YtmibpncmebhbjaaDoor
open Go Go.RowKit Go.Shelf
attribute [local go_sem] Oper.semAt_some

/-- Ways as cells: where each leads, and its steps. -/
def wayC (ps : List ((Nat × List (Nat × Bool)) × Value)) : List Value := ps.flatMap fun p => [.int .i64 (p.1.1 : Int), p.2]
theorem wayC_append (l m : List ((Nat × List (Nat × Bool)) × Value)) : wayC (l ++ m) = wayC l ++ wayC m := by simp [wayC]
theorem wayC_length (ps : List ((Nat × List (Nat × Bool)) × Value)) : (wayC ps).length = ps.length * 2 := by
  induction ps with
  | nil => rfl
  | cons u us ih => simp only [wayC, List.flatMap_cons, List.length_append] at ih ⊢; rw [ih]; simp; omega
theorem wayC_get {ps : List ((Nat × List (Nat × Bool)) × Value)} {k : Nat} (hk : k < ps.length) : (wayC ps)[k * 2]? = some (.int .i64 (ps[k].1.1 : Int)) ∧ (wayC ps)[k * 2 + 1]? = some ps[k].2 := by
  induction ps generalizing k with
  | nil => simp at hk
  | cons u us ih =>
    have e : wayC (u :: us) = .int .i64 (u.1.1 : Int) :: u.2 :: wayC us := rfl
    cases k with
    | zero => rw [e]; simp
    | succ k =>
      have := ih (k := k) (by simpa using hk)
      rw [e, show (k + 1) * 2 = k * 2 + 1 + 1 from by omega]
      simpa using this
/-- Ways in a row of the call's own. -/
def WaysO (w : World) (base : Nat) (v : Value) (ways : List (Nat × List (Nat × Bool))) : Prop :=
  ∃ ps : List ((Nat × List (Nat × Bool)) × Value), ps.map (·.1) = ways ∧ w.ownsRow base 165 2 v ways.length (wayC ps) ∧ ∀ p ∈ ps, SlT w 169 2 p.2 (stepsV p.1.2)
theorem WaysO.below {w w' : World} {base : Nat} {v : Value} {ways : List (Nat × List (Nat × Bool))} (h : WaysO w base v ways) (hb : Below w.heap.size w w') : WaysO w' base v ways := by
  obtain ⟨ps, h1, h2, h3⟩ := h
  exact ⟨ps, h1, own_below h2 hb, fun p hp => (h3 p hp).below hb⟩
theorem WaysO.setB {w : World} {base B k : Nat} {v : Value} {ways : List (Nat × List (Nat × Bool))} {C : Array Value} (h : WaysO w base v ways) (hB : Cel w B 4 C) (x : Value) : WaysO (w.setCell ⟨B, k, none⟩ x) base v ways := by
  obtain ⟨ps, h1, h2, h3⟩ := h
  exact ⟨ps, h1, own_setBk h2 hB (by decide) k x, fun p hp => (h3 p hp).setOther (p := ⟨B, k, none⟩) hB (by decide) x⟩
theorem WaysO.shape {w : World} {base : Nat} {v : Value} {ways : List (Nat × List (Nat × Bool))} (h : WaysO w base v ways) : ∃ A c, v = .slice A ways.length c ∧ ways.length ≤ c ∧ (c : Int) ≤ 9223372036854775807 := by
  obtain ⟨ps, h1, h2, h3⟩ := h
  obtain ⟨A, c, e, h4, h5, _⟩ := own_slice h2
  exact ⟨A, c, e, h4, h5⟩
theorem WaysO.at {w : World} {base n c : Nat} {A : Option Addr} {ways : List (Nat × List (Nat × Bool))} (h : WaysO w base (.slice A n c) ways) {k : Nat} (hk : k < ways.length) :
    ∃ g sv, A = some ⟨g, 0, none⟩ ∧ w.cell? ⟨g, k * 2, none⟩ = some (.int .i64 (ways[k].1 : Int)) ∧ w.cell? ⟨g, k * 2 + 1, none⟩ = some sv ∧ SlT w 169 2 sv (stepsV ways[k].2) := by
  obtain ⟨ps, rfl, h2, h3⟩ := h
  rw [List.length_map] at hk h2
  obtain ⟨A', c', e, _, _, hg⟩ := own_slice h2
  cases e
  obtain ⟨g, rfl, _, _⟩ := hg (by omega)
  obtain ⟨g0, g1⟩ := wayC_get hk
  have hl := wayC_length ps
  refine ⟨g, ps[k].2, rfl, ?_, ?_, ?_⟩
  · rw [h2.cellAt (k * 2) (by omega), g0]; simp
  · rw [h2.cellAt (k * 2 + 1) (by omega), g1]
  · have := h3 ps[k] (List.getElem_mem _)
    simpa using this
theorem WaysO.add {w w' : World} {base : Nat} {v : Value} {ps : List ((Nat × List (Nat × Bool)) × Value)} (h2 : w.ownsRow base 165 2 v ps.length (wayC ps)) (h3 : ∀ p ∈ ps, SlT w 169 2 p.2 (stepsV p.1.2))
    {j : Nat} {l : List (Nat × Bool)} {u : Value} (hu : SlT w 169 2 u (stepsV l)) {A : Option Addr} {c N : Nat}
    (ha : Appended base 165 2 v (wayC ps) [.int .i64 (j : Int), u] w w' A N c) (hN : N = ps.length + 1) : WaysO w' base (.slice A N c) (ps.map (·.1) ++ [(j, l)]) := by
  subst hN
  refine ⟨ps ++ [((j, l), u)], by simp, ?_, fun p hp => ?_⟩
  · have e2 : wayC (ps ++ [((j, l), u)]) = wayC ps ++ [.int .i64 (j : Int), u] := by simp [wayC]
    rw [e2]
    have := ha.own
    simpa using this
  · rcases List.mem_append.1 hp with hp | hp
    · exact (h3 p hp).keptT ha.grown (fun g hg => own_typed h2 hg) (by decide)
    · simp at hp; subst hp; exact hu.keptT ha.grown (fun g hg => own_typed h2 hg) (by decide)
/-- What an append of one way wants, and what it leaves. -/
theorem WaysO.more {w : World} {base : Nat} {v : Value} {ways : List (Nat × List (Nat × Bool))} (h : WaysO w base v ways) :
    ∃ xs, w.ownsRow base 165 2 v ways.length xs ∧ ∀ (w' : World) (j : Nat) (l : List (Nat × Bool)) (u : Value) (A : Option Addr) (c : Nat), SlT w 169 2 u (stepsV l) →
      Appended base 165 2 v xs [.int .i64 (j : Int), u] w w' A (ways.length + 1) c → WaysO w' base (.slice A (ways.length + 1) c) (ways ++ [(j, l)]) := by
  obtain ⟨ps, rfl, h2, h3⟩ := h
  rw [List.length_map] at *
  exact ⟨wayC ps, h2, fun w' j l u A c hu ha => WaysO.add h2 h3 hu ha rfl⟩
/-- What is seen, as a block. -/
def seenC (s : List Bool) : Array Value := (s.map Value.bool).toArray
theorem seenC_made (n : Nat) : madeCells #[.bool false] n = seenC (List.replicate n false) := by
  apply Array.ext
  · simp [madeCells, seenC]
  · intro i h1 h2
    simp [madeCells, seenC, Nat.mod_one]
theorem seenC_set (s : List Bool) (v : Nat) : (seenC s).setIfInBounds v (.bool true) = seenC (s.set v true) := by
  simp [seenC, List.map_set]
theorem seenC_get {s : List Bool} {v : Nat} {q : Bool} (h : s[v]? = some q) : (seenC s)[v]? = some (.bool q) := by
  simp [seenC, h]
theorem infoBool : (Tryd.prog.info? 4).map (fun i => (i.zero, i.size, i.bytes)) = some (some (.bool false), 1, 1) := by kernel_rfl
def WayPost (es : List Ed) (n a c : Nat) (w : World) (e : Ending) (w' : World) : Prop :=
  Below w.heap.size w w' ∧ ((∃ l v, e = .returned (.tuple #[v, .bool true]) ∧ SlT w' 169 2 v (stepsV l) ∧ Path es a l c ∧ l.length < n) ∨ (e = .returned (.tuple #[.slice none 0 0, .bool false]) ∧ ¬ Conn es a c))

/-- What a round of the search leaves. -/
structure WS (w : World) (base gs : Nat) (v : Value) (es : List Ed) (n a c : Nat) (ways : List (Nat × List (Nat × Bool))) (seen : List Bool) (i b : Nat) : Prop where
  wo : WaysO w base v ways
  so : Cel w gs 4 (seenC seen)
  bf : Bfs es n a c ways seen i b
theorem WS.below {w w' : World} {base gs : Nat} {v : Value} {es : List Ed} {n a c : Nat} {ways : List (Nat × List (Nat × Bool))} {seen : List Bool} {i b : Nat} (h : WS w base gs v es n a c ways seen i b) (hb : Below w.heap.size w w') : WS w' base gs v es n a c ways seen i b :=
  ⟨h.wo.below hb, h.so.below h.so.lt hb, h.bf⟩

set_option maxRecDepth 100000 in
set_option maxHeartbeats 2000000 in
theorem way_any (Bk : Nat) (lv bv : Value) (st : St) (bs : List Br) (f t : Nat) (w : World) (h : RBk w Bk lv bv st.ls bs) (hfew : st.ls.length ≤ 32) (hbs : bs.length ≤ 64) (hok : ∀ b ∈ bs, brE st b = 0) (hf : f < st.ls.length) :
    Calls Tryd.prog 111 #[.pointer (some ⟨Bk, 0, none⟩), .int .i64 (f : Int), .int .i64 (t : Int)] w (WayPost (bs.map (edOf st)) st.ls.length f t w) := by
  have hmk := run_make_row' (P := Tryd.prog) 81 4 (.bool false) 1 Tryd.underlying81 infoBool rfl .i64 .i64 st.ls.length (by omega) (by omega)
  obtain ⟨A, c, rfl, hlc, hcm, _⟩ := h.lads.open
  obtain ⟨BA, n', bc, rfl, hm, hmc, hcm', hbk⟩ := h.brs.open2 (by decide)
  obtain rfl : n' = bs.length := by rw [brsV_length] at hm; omega
  have q0 := h.blk.cell 0 _ rfl
  have HR := Lib.hid h
  have HBK := Lib.hid hbk
  have HES : Hid (∀ k (h : k < bs.length), (bs.map (edOf st))[k]? = some (edOf st bs[k]) ∧ atI st.ls bs[k].A = (brI st bs[k] : Int) ∧ atI st.ls bs[k].B = (brJ st bs[k] : Int) ∧ brI st bs[k] < st.ls.length ∧ brJ st bs[k] < st.ls.length) := fun k hk => by
    have hz := hok _ (List.getElem_mem hk)
    obtain ⟨i1, i2, _⟩ := brE_zero hz
    have e1 : idxE st.ls bs[k].A = 0 := by
      rcases idxE_two st.ls bs[k].A with e | e
      · exact e
      · rw [brE_none (.inl (by rw [e]; decide))] at hz; cases hz
    have e2 : idxE st.ls bs[k].B = 0 := by
      rcases idxE_two st.ls bs[k].B with e | e
      · exact e
      · rw [brE_none (.inr (by rw [e]; decide))] at hz; cases hz
    exact ⟨by simp [hk], atI_yes e1, atI_yes e2, i1, i2⟩
  have HEL := Lib.hid (show (bs.map (edOf st)).length = bs.length by simp)
  clear h hbk hok hm
  generalize bs.map (edOf st) = es at *
  go_enter Tryd.func111, Tryd.ntmps111
  go_upto_region 2 with fail
  obtain ⟨W0, hW0⟩ : ∃ W0, w.alloc (.cells (madeCells #[.bool false] st.ls.length) 4) = W0 := ⟨_, rfl⟩
  have Y0 : Cel W0 w.heap.size 4 (seenC (List.replicate st.ls.length false)) := by rw [← hW0, ← seenC_made]; exact Cel.new _ _ _
  have hB0 : Below w.heap.size w W0 := by rw [← hW0]; exact below_alloc' _ _
  have hs0 : W0.heap.size = w.heap.size + 1 := by rw [← hW0]; simp
  rw [hW0]
  clear hW0 hmk q0
  have c0 := Y0.cell f (.bool false) (seenC_get (by simp [hf]))
  have f0 := Y0.frozen f
  have Y1 := ((Y0.setAt f (.bool true)).alloc (.cells #[.int .i64 (f : Int), .slice none 0 0] 165))
  have Z1 := Cel.new (W0.setCell ⟨w.heap.size, f, none⟩ (.bool true)) 165 #[.int .i64 (f : Int), .slice none 0 0]
  have hB1 := (hB0.setCell (p := ⟨w.heap.size, f, none⟩) (Nat.le_refl _) (.bool true)).alloc (by simp; omega) (.cells #[.int .i64 (f : Int), .slice none 0 0] 165)
  rw [seenC_set] at Y1
  have hsz : (W0.setCell ⟨w.heap.size, f, none⟩ (.bool true)).heap.size = W0.heap.size := by simp
  rw [hsz] at Z1
  obtain ⟨W1, hW1⟩ : ∃ W1, (W0.setCell ⟨w.heap.size, f, none⟩ (.bool true)).alloc (.cells #[.int .i64 (f : Int), .slice none 0 0] 165) = W1 := ⟨_, rfl⟩
  rw [hW1] at Y1 Z1 hB1
  have hS0 : WS W1 w.heap.size w.heap.size (.slice (some ⟨W0.heap.size, 0, none⟩) 1 1) es st.ls.length f t [(f, [])] ((List.replicate st.ls.length false).set f true) 0 0 :=
    ⟨⟨[((f, []), .slice none 0 0)], rfl, own_lit Z1 (by omega) rfl (by decide), fun p hp => by simp at hp; subst hp; exact ⟨Sl.nil0 _ _, fun A n c e hn => by cases e; omega⟩⟩, Y1, Bfs.init hf⟩
  rw [hs0] at hS0
  have HS0 := Lib.hid hS0
  have HB1 := Lib.hid hB1
  clear Y0 Y1 Z1 hS0 hB0 hB1
  go_wp2
  clear hW1 c0 f0 hsz
  go_loopw [9, 10] (fun v9 v10 wr => ∃ (i : Nat) (ways : List (Nat × List (Nat × Bool))) (seen : List Bool) (A9 : Option Addr) (c9 : Nat), v10 = .int .i64 i ∧ v9 = .slice A9 ways.length c9 ∧ Hid (WS wr w.heap.size w.heap.size (.slice A9 ways.length c9) es st.ls.length f t ways seen i 0) ∧ Below w.heap.size w wr) (fun _ v10 _ => 33 - (intOf v10).toNat)
  case atStart => exact ⟨0, [(f, [])], _, some ⟨w.heap.size + 1, 0, none⟩, 1, rfl, rfl, HS0.out, HB1.out⟩
  case round =>
    obtain ⟨i, ways, seen, A9, c9, rfl, rfl, HS, hB⟩ := hrel
    have hle := HS.out.bf.le
    have hwn := HS.out.bf.few
    obtain ⟨_, _, ee, hc9, hm9⟩ := HS.out.wo.shape
    cases ee
    by_cases hlt : i < ways.length
    · obtain ⟨g9, sv, e9, g0, g1, hsv⟩ := HS.out.wo.at hlt
      subst e9
      obtain ⟨SA, sn, sc, rfl, _⟩ := hsv.1.shape
      have HSV := Lib.hid hsv
      obtain ⟨at', hat⟩ : ∃ x, ways[i].1 = x := ⟨_, rfl⟩
      obtain ⟨l', hl'⟩ : ∃ x, ways[i].2 = x := ⟨_, rfl⟩
      rw [hat] at g0
      rw [hl'] at HSV
      have HWI : Hid (ways[i]? = some (at', l')) := by rw [← hat, ← hl']; exact List.getElem?_eq_getElem hlt
      have HF := Lib.hid (fun hc => HS.out.bf.found (c := t) hlt hc)
      rw [hat, hl'] at HF
      clear hsv hat hl'
      have HB := Lib.hid hB
      have hbs := hB.size
      have hlt0 : i < 33 := by omega
      have HAC : Hid (∀ nm W, Below w.heap.size w W → Calls Tryd.prog 107 #[.pointer (some ⟨Bk, 0, none⟩), .string nm] W fun e w' => e = .returned (.int .i64 (atI st.ls nm)) ∧ W = w') := fun nm W hb =>
        at_any Bk _ _ st.ls nm W (HR.out.below hb).blk (HR.out.below hb).lads hfew
      by_cases hat' : at' = t
      · have HFF := Lib.hid (HF.out hat')
        have b1 : ((at' : Int) == (t : Int)) = true := by simp [hat']
        clear hat' HF HS
        go_wp2
        go_ret2
        exact ⟨hB.alloc hbs _, .inl ⟨l', .slice SA sn sc, rfl, HSV.out.below (below_alloc' _ _), HFF.out.1, HFF.out.2⟩⟩
      · have b1 : ((at' : Int) == (t : Int)) = false := by simp; omega
        have HNE := Lib.hid hat'
        clear hat' HF
        have Bx0 := Cel.new wr 165 #[.int .i64 (at' : Int), .slice SA sn sc]
        have hBX := hB.alloc hbs (.cells #[.int .i64 (at' : Int), .slice SA sn sc] 165)
        have HSX := Lib.hid (HS.out.below (below_alloc' wr (.cells #[.int .i64 (at' : Int), .slice SA sn sc] 165)))
        have HSVX := Lib.hid (HSV.out.below (below_alloc' wr (.cells #[.int .i64 (at' : Int), .slice SA sn sc] 165)))
        have HOB : Hid ((Value.slice (some ⟨g9, 0, none⟩) ways.length c9).ownBlock ≠ some wr.heap.size) := fun e => by
          obtain ⟨xs, ho, _⟩ := HS.out.wo.more
          have := (ho.lt _ e).2
          omega
        obtain ⟨BX, hBXe⟩ : ∃ BX, wr.heap.size = BX := ⟨_, rfl⟩
        rw [hBXe] at Bx0 HOB
        obtain ⟨X, hX⟩ : ∃ X, wr.alloc (.cells #[.int .i64 (at' : Int), .slice SA sn sc] 165) = X := ⟨_, rfl⟩
        rw [hX] at Bx0 hBX HSX HSVX
        have hbx0 : w.heap.size ≤ BX := by omega
        have x0 := Bx0.cell 0 (.int .i64 (at' : Int)) rfl
        have HBx0 := Lib.hid Bx0
        have HBX := Lib.hid hBX
        have hbx1 : w.heap.size < BX := by have := HS.out.so.lt; omega
        clear HS HSV HB hB Bx0 hBX
        go_wp2
        clear g0 g1 hX x0
        go_loopw [9, 12] (fun v9 v12 wx => ∃ (b : Nat) (ways' : List (Nat × List (Nat × Bool))) (seen' : List Bool) (A' : Option Addr) (c' : Nat), v12 = .int .i64 b ∧ v9 = .slice A' ways'.length c' ∧ b ≤ bs.length ∧ Hid (WS wx w.heap.size w.heap.size (.slice A' ways'.length c') es st.ls.length f t ways' seen' i b) ∧ Hid (ways'[i]? = some (at', l')) ∧ Hid (Cel wx BX 165 #[.int .i64 (at' : Int), .slice SA sn sc]) ∧ Hid (SlT wx 169 2 (.slice SA sn sc) (stepsV l')) ∧ Hid ((Value.slice A' ways'.length c').ownBlock ≠ some BX) ∧ Hid (Below w.heap.size w wx)) (fun _ v12 _ => bs.length - (intOf v12).toNat)
        case atStart => exact ⟨0, ways, seen, _, c9, rfl, rfl, by omega, HSX, HWI, HBx0, HSVX, HOB, HBX⟩
        case round =>
          clear HSX HBx0 HSVX HOB HBX
          obtain ⟨b, ways', seen', A', c', rfl, rfl, hb, HS, HWI', HBx, HSV, HOB, HB⟩ := hrel
          by_cases hlb : b < bs.length
          · obtain ⟨bb, bo, e, _, hce⟩ := HBK.out (by omega)
            subst e
            have g : ∀ t (ht : t < 6) u, (brV bs[b])[t]? = some u → wr.cell? ⟨bb, bo + (b * 6 + t), none⟩ = some u := fun t ht u hu => below_cell HB.out (hce _ _ (by rw [brsV_get hlb t ht]; exact hu))
            have g0 := g 0 (by decide) _ rfl
            have g2 := g 2 (by decide) _ rfl
            simp only [← Nat.add_assoc, Nat.add_zero] at g0 g2
            have q1 := (HR.out.below HB.out).blk.cell 1 (.slice (some ⟨bb, bo, none⟩) bs.length bc) rfl
            obtain ⟨hes, ha1, ha2, hI, hJ⟩ := HES.out b hlb
            have HES' := Lib.hid hes
            have HA := Lib.hid (fun W (hb : Below w.heap.size w W) => HAC.out bs[b].A W hb)
            have HA2 := Lib.hid (fun W (hb : Below w.heap.size w W) => HAC.out bs[b].B W hb)
            rw [ha1] at HA
            rw [ha2] at HA2
            have HEI := Lib.hid (show (edOf st bs[b]).i = brI st bs[b] ∧ (edOf st bs[b]).j = brJ st bs[b] from ⟨rfl, rfl⟩)
            clear g hes ha1 ha2 hce
            generalize edOf st bs[b] = ed at *
            generalize brI st bs[b] = I at *
            generalize brJ st bs[b] = J at *
            generalize bs[b].A = sA at *
            generalize bs[b].B = sB at *
            have k1 : (0 : Int) ≤ (b : Int) := by omega
            have k2 : (b : Int) < (bs.length : Int) := by omega
            go_wp2
            go_quiet ((first | (go_at_call_of 107 (Value.string sA); exact quiet_left (HA.out _ (below_drewN HB.out _))) | (go_at_call_of 107 (Value.string sB); exact quiet_left (HA2.out _ (below_drewN HB.out _)))))
            have HS2 := Lib.hid (HS.out.below (below_drewN' wr nq))
            have HBx2 := Lib.hid (HBx.out.below HBx.out.lt (below_drewN' wr nq))
            have HSV2 := Lib.hid (HSV.out.below (below_drewN' wr nq))
            have HB2 := Lib.hid (below_drewN HB.out nq)
            obtain ⟨V, hV⟩ : ∃ V, wr.drewN nq = V := ⟨_, rfl⟩
            rw [hV] at HS2 HBx2 HSV2 HB2 ⊢
            clear hV q1 g0 g2 HS HBx HSV HB HA HA2
            have x0 := HBx2.out.cell 0 (.int .i64 (at' : Int)) rfl
            have h14 := Lib.hid (show J < seen'.length by have := HS2.out.bf.len; omega)
            go_upto_region 14 with fail
            go_cut [82] (fun v wy => ∃ (V2 : World) (q : Bool), V2 = wy ∧ v = .bool q ∧ wy = V ∧ Hid (if q then I = at' ∧ seen'[J]? = some false else (I = at' → seen'[J]? = some true)))
            case first =>
              by_cases hI1 : I = at'
              · have b2 : ((I : Int) == (at' : Int)) = true := by simp [hI1]
                have HII := Lib.hid hI1
                obtain ⟨q, hq⟩ : ∃ q, seen'[J]? = some q := ⟨_, List.getElem?_eq_getElem h14.out⟩
                have HQ := Lib.hid hq
                have sJ := HS2.out.so.cell J (.bool q) (seenC_get hq)
                clear hI1 hq
                cases q with
                | true =>
                  go_wp2_with fail
                  go_meet
                  exact ⟨_, false, rfl, rfl, rfl, fun _ => HQ.out⟩
                | false =>
                  go_wp2_with fail
                  go_meet
                  exact ⟨_, true, rfl, rfl, rfl, HII.out, HQ.out⟩
              · have b2 : ((I : Int) == (at' : Int)) = false := by simp; omega
                have HII := Lib.hid hI1
                clear hI1
                go_wp2_with fail
                go_meet
                exact ⟨_, false, rfl, rfl, rfl, fun e => absurd e HII.out⟩
            case rest =>
              obtain ⟨V2, q, rfl, rfl, rfl, HQ⟩ := hcut
              go_upto_if 82 with fail
              go_cut [9] (fun v9 wy => ∃ (Y : World) (ways2 : List (Nat × List (Nat × Bool))) (seen2 : List Bool) (A2 : Option Addr) (c2 : Nat), Y = wy ∧ v9 = .slice A2 ways2.length c2 ∧ Hid (WS wy w.heap.size w.heap.size (.slice A2 ways2.length c2) es st.ls.length f t ways2 seen2 i b) ∧ Hid (ways2[i]? = some (at', l')) ∧ Hid (Cel wy BX 165 #[.int .i64 (at' : Int), .slice SA sn sc]) ∧ Hid (SlT wy 169 2 (.slice SA sn sc) (stepsV l')) ∧ Hid ((Value.slice A2 ways2.length c2).ownBlock ≠ some BX) ∧ Hid (Below w.heap.size w wy) ∧ Hid (I = at' → seen2[J]? = some true))
              case first =>
                cases q with
                | false =>
                  have HCL0 : Hid (I = at' → seen'[J]? = some true) := HQ.out
                  clear HQ
                  go_wp2
                  go_meet
                  exact ⟨_, ways', seen', A', c', rfl, rfl, HS2.out, HWI'.out, HBx2.out, HSV2.out, HOB.out, HB2.out, HCL0.out⟩
                | true =>
                  have HII : Hid (I = at') := HQ.out.1
                  have HSJ : Hid (seen'[J]? = some false) := HQ.out.2
                  clear HQ
                  have sJ := HS2.out.so.cell J (.bool false) (seenC_get HSJ.out)
                  have fJ := HS2.out.so.frozen J
                  have hWs := HS2.out.wo.setB (k := J) HS2.out.so (.bool true)
                  have hSs := HS2.out.so.setAt J (.bool true)
                  rw [seenC_set] at hSs
                  have hXs := HBx2.out.other (p := ⟨w.heap.size, J, none⟩) (by show w.heap.size ≠ BX; omega) (.bool true)
                  have hVs := HSV2.out.setOther (p := ⟨w.heap.size, J, none⟩) HS2.out.so (by decide) (.bool true)
                  have hBs := HB2.out.setCell (p := ⟨w.heap.size, J, none⟩) (Nat.le_refl _) (.bool true)
                  obtain ⟨Vs, hVe⟩ : ∃ Vs, V2.setCell ⟨w.heap.size, J, none⟩ (.bool true) = Vs := ⟨_, rfl⟩
                  rw [hVe] at hWs hSs hXs hVs hBs
                  have x1 := hXs.cell 1 (.slice SA sn sc) rfl
                  have x0' := hXs.cell 0 (.int .i64 (at' : Int)) rfl
                  have HWs := Lib.hid hWs
                  have HSs := Lib.hid hSs
                  have HXs := Lib.hid hXs
                  have HVs := Lib.hid hVs
                  have HBs := Lib.hid hBs
                  have HMEM := Lib.hid (List.mem_of_getElem? HWI'.out)
                  have HDEP := Lib.hid (HS2.out.bf.dep _ HMEM.out)
                  have HFEW := Lib.hid HS2.out.bf.few
                  have hiw := (List.getElem?_eq_some_iff.1 HWI'.out).1
                  clear hWs hSs hXs hVs hBs
                  go_wp2_with fail
                  clear hVe sJ fJ x0
                  go_fit (behind_any (.slice SA sn sc) l' b false Vs HVs.out.1 (by have := HDEP.out; have := HFEW.out; simp at *; omega))
                  rintro e w2 ⟨A3, c3, rfl, hown3, hb2⟩
                  obtain ⟨xs, ho, hadd⟩ := ((HWs.out.below hb2).below (below_alloc' w2 (.cells #[.int .i64 (J : Int), .slice A3 (l'.length + 1) c3] 165))).more
                  have HO := Lib.hid ho
                  have HADD := Lib.hid hadd
                  have HL1 := Lib.hid (Sl.new (s := 2) w2 165 1 1 #[.int .i64 (J : Int), .slice A3 (l'.length + 1) c3] rfl (Nat.le_refl _) (by decide))
                  have HSL3 := Lib.hid ((SlT.of_own hown3).below (below_alloc' w2 (.cells #[.int .i64 (J : Int), .slice A3 (l'.length + 1) c3] 165)))
                  have HSs2 := Lib.hid ((HSs.out.below HSs.out.lt hb2).alloc (.cells #[.int .i64 (J : Int), .slice A3 (l'.length + 1) c3] 165))
                  have HXs2 := Lib.hid ((HXs.out.below HXs.out.lt hb2).alloc (.cells #[.int .i64 (J : Int), .slice A3 (l'.length + 1) c3] 165))
                  have HVs2 := Lib.hid ((HVs.out.below hb2).below (below_alloc' w2 (.cells #[.int .i64 (J : Int), .slice A3 (l'.length + 1) c3] 165)))
                  have HBs2 := Lib.hid ((below_then HBs.out hb2).alloc (below_then HBs.out hb2).size (.cells #[.int .i64 (J : Int), .slice A3 (l'.length + 1) c3] 165))
                  have hw2s := (below_then HBs.out hb2).size
                  have hfew2 := HFEW.out
                  clear ho hadd hown3 hb2 x1 x0'
                  go_wp2_with (at_builtin; refine appWay (.tmp 86) (.tmp 94) rfl rfl rfl rfl HO.out HL1.out (by simp [Value.oneCell']) (N := ways'.length + 1) (by simp; omega) (by omega) (by simp; omega) ?_; intro A4 c4 w4 hap)
                  have HN1 : Hid (WS w4 w.heap.size w.heap.size (.slice A4 (ways' ++ [(J, l' ++ [(b, false)])]).length c4) es st.ls.length f t (ways' ++ [(J, l' ++ [(b, false)])]) (seen'.set J true) i b) := by
                    refine ⟨?_, HSs2.out.keptT hap.grown (fun _ hg => own_typed HO.out hg) (by decide), HS2.out.bf.add hiw HSJ.out ?_ (by have := HDEP.out; simp at *; omega)⟩
                    · rw [List.length_append]; exact HADD.out w4 J _ _ A4 c4 HSL3.out hap
                    · have hp := HS2.out.bf.path _ HMEM.out
                      have := Path.fwd hp b ed HES'.out (by rw [HEI.out.1, HII.out])
                      rw [HEI.out.2] at this
                      exact this
                  have HN2 : Hid ((ways' ++ [(J, l' ++ [(b, false)])])[i]? = some (at', l')) := by rw [show (ways' ++ [(J, l' ++ [(b, false)])])[i]? = ways'[i]? from List.getElem?_append_left hiw]; exact HWI'.out
                  have HN3 := Lib.hid (HXs2.out.kept hap.grown (fun e => HOB.out e.symm))
                  have HN4 := Lib.hid (HVs2.out.keptT hap.grown (fun _ hg => own_typed HO.out hg) (by decide))
                  have HN5 : Hid ((Value.slice A4 (ways' ++ [(J, l' ++ [(b, false)])]).length c4).ownBlock ≠ some BX) := by
                    have e0 : (Value.slice A4 (ways' ++ [(J, l' ++ [(b, false)])]).length c4).ownBlock = (Value.slice A4 (ways'.length + 1) c4).ownBlock := by simp
                    rw [e0]
                    rcases hap.block with e | e
                    · rw [e]; exact HOB.out
                    · rw [e]; intro e'; injection e' with e'; have := HXs2.out.lt; omega
                  have HN6 := Lib.hid (below_of_own hap.grown HO.out HBs2.out (Nat.le_refl _))
                  have HNL := Lib.hid (show seen'.length = st.ls.length from HS2.out.bf.len)
                  clear hap
                  go_wp2
                  go_meet
                  exact ⟨_, _, _, A4, c4, rfl, by rw [List.length_append]; rfl, HN1.out, HN2.out, HN3.out, HN4.out, HN5.out, HN6.out, fun _ => by rw [List.getElem?_set_self (by rw [HNL.out]; exact hJ)]⟩
              case rest =>
                obtain ⟨Y, ways2, seen2, A2, c2, rfl, rfl, HS3, HWI2, HBx3, HSV3, HOB2, HB3, HCL⟩ := hcut
                clear HS2 HWI' HBx2 HSV2 HOB HB2 x0 h14 HQ
                have x0 := HBx3.out.cell 0 (.int .i64 (at' : Int)) rfl
                have h14 := Lib.hid (show I < seen2.length by have := HS3.out.bf.len; omega)
                go_upto_region 17 with fail
                go_cut [106] (fun v wy => ∃ (Y2 : World) (q : Bool), Y2 = wy ∧ v = .bool q ∧ wy = Y ∧ Hid (if q then J = at' ∧ seen2[I]? = some false else (J = at' → seen2[I]? = some true)))
                case first =>
                  by_cases hI1 : J = at'
                  · have b2 : ((J : Int) == (at' : Int)) = true := by simp [hI1]
                    have HII := Lib.hid hI1
                    obtain ⟨q, hq⟩ : ∃ q, seen2[I]? = some q := ⟨_, List.getElem?_eq_getElem h14.out⟩
                    have HQ := Lib.hid hq
                    have sJ := HS3.out.so.cell I (.bool q) (seenC_get hq)
                    clear hI1 hq
                    cases q with
                    | true =>
                      go_wp2_with fail
                      go_meet
                      exact ⟨_, false, rfl, rfl, rfl, fun _ => HQ.out⟩
                    | false =>
                      go_wp2_with fail
                      go_meet
                      exact ⟨_, true, rfl, rfl, rfl, HII.out, HQ.out⟩
                  · have b2 : ((J : Int) == (at' : Int)) = false := by simp; omega
                    have HII := Lib.hid hI1
                    clear hI1
                    go_wp2_with fail
                    go_meet
                    exact ⟨_, false, rfl, rfl, rfl, fun e => absurd e HII.out⟩
                case rest =>
                  obtain ⟨Y2, q, rfl, rfl, rfl, HQ⟩ := hcut
                  go_upto_if 106 with fail
                  cases q with
                  | false =>
                    have HCL0 : Hid (J = at' → seen2[I]? = some true) := HQ.out
                    clear HQ
                    go_wp2
                    go_roundw
                    case rel =>
                      refine ⟨b + 1, ways2, seen2, A2, c2, by go_num, rfl, by omega, ⟨HS3.out.wo, HS3.out.so, HS3.out.bf.edge (List.getElem?_eq_some_iff.1 HWI2.out).1 HES'.out ?_ ?_⟩, HWI2, HBx3, HSV3, HOB2, HB3⟩
                      · rw [(List.getElem?_eq_some_iff.1 HWI2.out).2, HEI.out.1, HEI.out.2]; exact HCL.out
                      · rw [(List.getElem?_eq_some_iff.1 HWI2.out).2, HEI.out.1, HEI.out.2]; exact HCL0.out
                    case measure => simp [intOf]; omega
                  | true =>
                    have HII : Hid (J = at') := HQ.out.1
                    have HSJ : Hid (seen2[I]? = some false) := HQ.out.2
                    clear HQ
                    have sJ := HS3.out.so.cell I (.bool false) (seenC_get HSJ.out)
                    have fJ := HS3.out.so.frozen I
                    have hWs := HS3.out.wo.setB (k := I) HS3.out.so (.bool true)
                    have hSs := HS3.out.so.setAt I (.bool true)
                    rw [seenC_set] at hSs
                    have hXs := HBx3.out.other (p := ⟨w.heap.size, I, none⟩) (by show w.heap.size ≠ BX; omega) (.bool true)
                    have hVs := HSV3.out.setOther (p := ⟨w.heap.size, I, none⟩) HS3.out.so (by decide) (.bool true)
                    have hBs := HB3.out.setCell (p := ⟨w.heap.size, I, none⟩) (Nat.le_refl _) (.bool true)
                    obtain ⟨Vs, hVe⟩ : ∃ Vs, Y2.setCell ⟨w.heap.size, I, none⟩ (.bool true) = Vs := ⟨_, rfl⟩
                    rw [hVe] at hWs hSs hXs hVs hBs
                    have x1 := hXs.cell 1 (.slice SA sn sc) rfl
                    have x0' := hXs.cell 0 (.int .i64 (at' : Int)) rfl
                    have HWs := Lib.hid hWs
                    have HSs := Lib.hid hSs
                    have HXs := Lib.hid hXs
                    have HVs := Lib.hid hVs
                    have HBs := Lib.hid hBs
                    have HMEM := Lib.hid (List.mem_of_getElem? HWI2.out)
                    have HDEP := Lib.hid (HS3.out.bf.dep _ HMEM.out)
                    have HFEW := Lib.hid HS3.out.bf.few
                    have hiw := (List.getElem?_eq_some_iff.1 HWI2.out).1
                    clear hWs hSs hXs hVs hBs
                    go_wp2_with fail
                    clear hVe sJ fJ x0
                    go_fit (behind_any (.slice SA sn sc) l' b true Vs HVs.out.1 (by have := HDEP.out; have := HFEW.out; simp at *; omega))
                    rintro e w2 ⟨A3, c3, rfl, hown3, hb2⟩
                    obtain ⟨xs, ho, hadd⟩ := ((HWs.out.below hb2).below (below_alloc' w2 (.cells #[.int .i64 (I : Int), .slice A3 (l'.length + 1) c3] 165))).more
                    have HO := Lib.hid ho
                    have HADD := Lib.hid hadd
                    have HL1 := Lib.hid (Sl.new (s := 2) w2 165 1 1 #[.int .i64 (I : Int), .slice A3 (l'.length + 1) c3] rfl (Nat.le_refl _) (by decide))
                    have HSL3 := Lib.hid ((SlT.of_own hown3).below (below_alloc' w2 (.cells #[.int .i64 (I : Int), .slice A3 (l'.length + 1) c3] 165)))
                    have HSs2 := Lib.hid ((HSs.out.below HSs.out.lt hb2).alloc (.cells #[.int .i64 (I : Int), .slice A3 (l'.length + 1) c3] 165))
                    have HXs2 := Lib.hid ((HXs.out.below HXs.out.lt hb2).alloc (.cells #[.int .i64 (I : Int), .slice A3 (l'.length + 1) c3] 165))
                    have HVs2 := Lib.hid ((HVs.out.below hb2).below (below_alloc' w2 (.cells #[.int .i64 (I : Int), .slice A3 (l'.length + 1) c3] 165)))
                    have HBs2 := Lib.hid ((below_then HBs.out hb2).alloc (below_then HBs.out hb2).size (.cells #[.int .i64 (I : Int), .slice A3 (l'.length + 1) c3] 165))
                    have hw2s := (below_then HBs.out hb2).size
                    have hfew2 := HFEW.out
                    clear ho hadd hown3 hb2 x1 x0'
                    go_wp2_with (at_builtin; refine appWay (.tmp 110) (.tmp 118) rfl rfl rfl rfl HO.out HL1.out (by simp [Value.oneCell']) (N := ways2.length + 1) (by simp; omega) (by omega) (by simp; omega) ?_; intro A4 c4 w4 hap)
                    have HN1 : Hid (WS w4 w.heap.size w.heap.size (.slice A4 (ways2 ++ [(I, l' ++ [(b, true)])]).length c4) es st.ls.length f t (ways2 ++ [(I, l' ++ [(b, true)])]) (seen2.set I true) i b) := by
                      refine ⟨?_, HSs2.out.keptT hap.grown (fun _ hg => own_typed HO.out hg) (by decide), HS3.out.bf.add hiw HSJ.out ?_ (by have := HDEP.out; simp at *; omega)⟩
                      · rw [List.length_append]; exact HADD.out w4 I _ _ A4 c4 HSL3.out hap
                      · have hp := HS3.out.bf.path _ HMEM.out
                        have := Path.back hp b ed HES'.out (by rw [HEI.out.2, HII.out])
                        rw [HEI.out.1] at this
                        exact this
                    have HN2 : Hid ((ways2 ++ [(I, l' ++ [(b, true)])])[i]? = some (at', l')) := by rw [show (ways2 ++ [(I, l' ++ [(b, true)])])[i]? = ways2[i]? from List.getElem?_append_left hiw]; exact HWI2.out
                    have HN3 := Lib.hid (HXs2.out.kept hap.grown (fun e => HOB2.out e.symm))
                    have HN4 := Lib.hid (HVs2.out.keptT hap.grown (fun _ hg => own_typed HO.out hg) (by decide))
                    have HN5 : Hid ((Value.slice A4 (ways2 ++ [(I, l' ++ [(b, true)])]).length c4).ownBlock ≠ some BX) := by
                      have e0 : (Value.slice A4 (ways2 ++ [(I, l' ++ [(b, true)])]).length c4).ownBlock = (Value.slice A4 (ways2.length + 1) c4).ownBlock := by simp
                      rw [e0]
                      rcases hap.block with e | e
                      · rw [e]; exact HOB2.out
                      · rw [e]; intro e'; injection e' with e'; have := HXs2.out.lt; omega
                    have HN6 := Lib.hid (below_of_own hap.grown HO.out HBs2.out (Nat.le_refl _))
                    have HNL := Lib.hid (show seen2.length = st.ls.length from HS3.out.bf.len)
                    clear hap
                    go_wp2
                    go_roundw
                    case rel =>
                      refine ⟨b + 1, (ways2 ++ [(I, l' ++ [(b, true)])]), (seen2.set I true), A4, c4, by go_num, by rw [List.length_append]; rfl, by omega, ⟨HN1.out.wo, HN1.out.so, HN1.out.bf.edge (List.getElem?_eq_some_iff.1 HN2.out).1 HES'.out ?_ ?_⟩, HN2, HN3, HN4, HN5, HN6⟩
                      · rw [(List.getElem?_eq_some_iff.1 HN2.out).2, HEI.out.1, HEI.out.2]; exact fun e => set_seen (HCL.out e)
                      · rw [(List.getElem?_eq_some_iff.1 HN2.out).2, HEI.out.1, HEI.out.2]; exact fun _ => by rw [List.getElem?_set_self (by rw [HNL.out]; exact hI)]
                    case measure => simp [intOf]; omega
          · have hbe : b = bs.length := by omega
            have HSE : Hid (WS wr w.heap.size w.heap.size (.slice A' ways'.length c') es st.ls.length f t ways' seen' (i + 1) 0) := by
              obtain ⟨hlt', he⟩ := List.getElem?_eq_some_iff.1 HWI'.out
              have h0 := HS.out.bf
              rw [hbe, ← HEL.out] at h0
              exact ⟨HS.out.wo, HS.out.so, h0.next hlt' (by rw [he]; exact HNE.out)⟩
            have HBE := Lib.hid HB.out
            have q1 := (HR.out.below HB.out).blk.cell 1 (.slice BA bs.length bc) rfl
            clear hbe
            go_wp2
            go_roundw
            case rel => exact ⟨i + 1, ways', seen', A', c', by go_num, rfl, HSE, HBE.out⟩
            case measure => simp [intOf]; omega
    · have hil : i = ways.length := by omega
      have HN : Hid (¬ Conn es f t) := by
        have := HS.out.bf
        rw [hil] at this
        exact this.no
      clear hil
      go_wp2
      go_ret2
      exact ⟨hB, .inr ⟨rfl, HN.out⟩⟩
end Go.Proofs.YtmibpncmebhbjaaDoor
