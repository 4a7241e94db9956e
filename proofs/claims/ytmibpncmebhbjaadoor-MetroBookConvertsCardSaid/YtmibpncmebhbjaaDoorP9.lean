/- bridge, whole. NewBook: its specification; the book while its ladders come in. NewBook: the walk. -/
import Derived.Test.YtmibpncmebhbjaaDoorP7
import Derived.Test.YtmibpncmebhbjaaDoorP8
import Derived.Test.YtmibpncmebhbjaaDoorP6
import Derived.Deep.RegionLaw
namespace Go.Proofs.YtmibpncmebhbjaaDoor
section
open Go Go.RowKit Go.Shelf

theorem firstF3_zero {a b c : Int} (h : firstF [a, b, c] = 0) : a = 0 ∧ b = 0 ∧ c = 0 := by
  by_cases h1 : a = 0
  · by_cases h2 : b = 0
    · by_cases h3 : c = 0
      · exact ⟨h1, h2, h3⟩
      · simp [firstF, h1, h2, h3] at h
    · simp [firstF, h1, h2] at h
  · simp [firstF, h1] at h
theorem BookO.below {w w' : World} {base Bk bm : Nat} {lv gv fv : Value} {st : St} (h : BookO w base Bk bm lv gv fv st) (hb : Below w.heap.size w w') : BookO w' base Bk bm lv gv fv st := (h.toL.below hb).toO (fun _ _ => Nat.le_refl _)
theorem bridge_any (base Bk bm : Nat) (lv gv fv : Value) (st : St) (b : Br) (w : World) (hb : BookO w base Bk bm lv gv fv st) (hg : Good st) (hbase : base ≤ w.heap.size) :
    Calls Tryd.prog 99 #[.pointer (some ⟨Bk, 0, none⟩), .agg #[.string b.A, .string b.SA, .string b.B, .string b.SB, .int .i64 b.N, .int .i64 b.D]] w fun e w' => e = .returned (.int .i64 (bridgeF st b).1) ∧ Below base w w' ∧ BookO w' base Bk bm lv gv fv (bridgeF st b).2 := by
  by_cases he : firstF [idxE st.ls b.A, idxE st.ls b.B] = 0
  · have hE : brE st b = firstF [(brVa st b).2, (brVb st b).2, needF (isR b.N b.D && decide (0 < b.N)) 2] := if_pos he
    rcases hli : ladOf st (idxI st.ls b.A) with ⟨ni, ui⟩
    rcases hlj : ladOf st (idxI st.ls b.B) with ⟨nj, uj⟩
    rcases hva : valueF ni ui b.SA with ⟨va, ea⟩
    rcases hvb : valueF nj uj b.SB with ⟨vb, eb⟩
    have h1 : brVa st b = (va, ea) := by
      show valueF (ladOf st (idxI st.ls b.A)).1 (ladOf st (idxI st.ls b.A)).2 b.SA = _
      rw [hli]; exact hva
    have h2 : brVb st b = (vb, eb) := by
      show valueF (ladOf st (idxI st.ls b.B)).1 (ladOf st (idxI st.ls b.B)).2 b.SB = _
      rw [hlj]; exact hvb
    rw [h1, h2] at hE
    simp only at hE
    by_cases hq : firstF [ea, eb, needF (isR b.N b.D && decide (0 < b.N)) 2] = 0
    · obtain ⟨rfl, rfl, h3⟩ := firstF3_zero hq
      have h4 : (isR b.N b.D && decide (0 < b.N)) = true := by
        cases h5 : (isR b.N b.D && decide (0 < b.N)) with
        | true => rfl
        | false => rw [h5] at h3; simp [needF] at h3
      rw [Bool.and_eq_true] at h4
      have hF : (if grpAt st (idxI st.ls b.A) = grpAt st (idxI st.ls b.B) then (needF (decide (facAt st (idxI st.ls b.A) * (facAt st (idxI st.ls b.B))⁻¹ * (ownQ b.N b.D va vb)⁻¹ = 1)) 12, st) else (0, { st with grp := brGrp st b st.ls.length, fac := brFac st b st.ls.length })) = ((bridgeF st b).1, (bridgeF st b).2) := by
        unfold bridgeF
        rw [if_pos (hE.trans hq)]
        have e1 : brOwn st b = ownQ b.N b.D va vb := by unfold brOwn; rw [h1, h2]
        rw [e1]
        rfl
      by_cases hgg : grpAt st (idxI st.ls b.A) = grpAt st (idxI st.ls b.B)
      · exact bridge_same base Bk bm lv gv fv st b w hb hg hbase he _ _ rfl rfl ni nj ui uj hli hlj va vb hva hvb h4.1 h4.2 _ _ rfl rfl _ _ hF hgg
      · exact bridge_merge base Bk bm lv gv fv st b w hb hg hbase he _ _ rfl rfl ni nj ui uj hli hlj va vb hva hvb h4.1 h4.2 _ _ rfl rfl _ _ hF hgg
    · have hF : bridgeF st b = (brE st b, st) := by unfold bridgeF; rw [if_neg (by rw [hE]; exact hq)]
      rw [hF]
      refine (bridge_err base Bk bm lv gv fv st b w hb he _ _ rfl rfl ni nj ui uj hli hlj va ea vb eb hva hvb _ _ rfl rfl (brE st b) hE.symm (by rw [hE]; exact bne_iff_ne.2 hq)).mono ?_
      rintro e w' ⟨rfl, hb'⟩
      exact ⟨rfl, hb'.mono hbase, hb.below hb'⟩
  · have hE : brE st b = firstF [idxE st.ls b.A, idxE st.ls b.B] := if_neg he
    have hF : bridgeF st b = (brE st b, st) := by unfold bridgeF; rw [if_neg (by rw [hE]; exact he)]
    rw [hF]
    refine (bridge_noname base Bk bm lv gv fv st b w hb he).mono ?_
    rintro e w' ⟨rfl, hb'⟩
    exact ⟨rfl, hb'.mono hbase, hb.below hb'⟩
end

section
open Go Go.RowKit Go.Shelf

/-- The first error of ladders behind those that are in. -/
def ladsE : List La → List La → Int
  | _, [] => 0
  | pre, l :: ls => if checkF l.nm l.us = 0 then (if (findL l.nm pre 0).isSome then 2 else ladsE (pre ++ [l]) ls) else checkF l.nm l.us
def st0 (ls : List La) : St := ⟨ls, List.range ls.length, List.replicate ls.length 1⟩
def bridgesF : St → List Br → Int × St
  | st, [] => (0, st)
  | st, b :: bs => if (bridgeF st b).1 = 0 then bridgesF (bridgeF st b).2 bs else (bridgeF st b).1 |> fun e => (e, st)
def newF (ls : List La) (bs : List Br) : Int × St :=
  if 32 < ls.length ∨ 64 < bs.length then (3, st0 ls) else if ladsE [] ls = 0 then bridgesF (st0 ls) bs else (ladsE [] ls, st0 ls)
theorem ladsE_ok {pre ls : List La} (h : ladsE pre ls = 0) : ∀ l ∈ ls, checkF l.nm l.us = 0 := by
  induction ls generalizing pre with
  | nil => intro l hl; cases hl
  | cons x ls ih =>
    unfold ladsE at h
    split at h
    · rename_i hx
      split at h
      · cases h
      · intro l hl
        rcases List.mem_cons.1 hl with rfl | hl
        · exact hx
        · exact ih h l hl
    · rename_i hx
      exact absurd h hx
theorem good_st0 {ls : List La} (h1 : ls.length ≤ 32) (h2 : ∀ l ∈ ls, checkF l.nm l.us = 0) : Good (st0 ls) :=
  ⟨by simp [st0], by simp [st0], h1, h2, fun g hg => by simpa [st0] using hg⟩
theorem good_bridges {st : St} (bs : List Br) (h : Good st) : Good (bridgesF st bs).2 := by
  induction bs generalizing st with
  | nil => exact h
  | cons b bs ih =>
    unfold bridgesF
    split
    · exact ih (good_bridge st b h)
    · exact h
theorem good_new {ls : List La} {bs : List Br} (h : (newF ls bs).1 = 0) : Good (newF ls bs).2 := by
  unfold newF at *
  split at h
  · cases h
  · rename_i h1
    rw [if_neg h1]
    split at h
    · rename_i h2
      rw [if_pos h2]
      exact good_bridges bs (good_st0 (by omega) (ladsE_ok h2))
    · rename_i h2
      exact absurd h h2

/-- A row's own block has the row's type. -/
theorem own_typed {w : World} {base : Nat} {e : TypeId} {size n : Nat} {v : Value} {xs : List Value} (h : w.ownsRow base e size v n xs) {g : Nat} (hg : v.ownBlock = some g) : ∃ C, w.heap[g]? = some (.cells C e (0, 0)) := by
  obtain ⟨hl, ⟨rfl, rfl⟩ | ⟨g', cap, cur, rfl, _, hh, r⟩⟩ := h
  · cases hg
  · cases hg; exact ⟨cur, hh⟩
section
variable {w w' : World} {row : Option Nat} {t' : TypeId}
theorem own_keptT {base : Nat} {e : TypeId} {size n : Nat} {v : Value} {xs : List Value} (h : w.ownsRow base e size v n xs) (hg : w.grownBy w' row) (hr : ∀ g, row = some g → ∃ C, w.heap[g]? = some (.cells C t' (0, 0))) (hne : e ≠ t') : w'.ownsRow base e size v n xs := by
  obtain ⟨hl, ⟨rfl, rfl⟩ | ⟨g, cap, cur, rfl, hb, hh, r⟩⟩ := h
  · exact ⟨hl, .inl ⟨rfl, rfl⟩⟩
  · refine ⟨hl, .inr ⟨g, cap, cur, rfl, hb, ?_, r⟩⟩
    rw [hg.block g (Array.getElem?_eq_some_iff.1 hh).1 ?_]
    · exact hh
    · intro e'
      obtain ⟨C, hC⟩ := hr g e'.symm
      rw [hh] at hC; cases hC; exact hne rfl
theorem Cel.keptT {B : Nat} {t : TypeId} {vs : Array Value} (h : Cel w B t vs) (hg : w.grownBy w' row) (hr : ∀ g, row = some g → ∃ C, w.heap[g]? = some (.cells C t' (0, 0))) (hne : t ≠ t') : Cel w' B t vs :=
  h.kept hg (fun e' => by
    obtain ⟨C, hC⟩ := hr B e'.symm
    rw [show w.heap[B]? = some (.cells vs t (0, 0)) from h] at hC; cases hC; exact hne rfl)
theorem MapS.keptT {b : Nat} {m : List Kv} (h : MapS w b m) (hg : w.grownBy w' row) (hr : ∀ g, row = some g → ∃ C, w.heap[g]? = some (.cells C t' (0, 0))) : MapS w' b m :=
  h.kept hg (fun e' => by
    obtain ⟨C, hC⟩ := hr b e'.symm
    obtain ⟨es, c, hh, _⟩ := h
    rw [hh] at hC; cases hC)
theorem SlT.keptT {t : TypeId} {s : Nat} {v : Value} {xs : List Value} (h : SlT w t s v xs) (hg : w.grownBy w' row) (hr : ∀ g, row = some g → ∃ C, w.heap[g]? = some (.cells C t' (0, 0))) (hne : t ≠ t') : SlT w' t s v xs := by
  obtain ⟨h1, h2⟩ := h
  have hkeep : ∀ (b : Nat) (C' : Array Value), w.heap[b]? = some (Obj.cells C' t (0, 0)) → w'.heap[b]? = w.heap[b]? := by
    intro b C' hb
    refine hg.block b (Array.getElem?_eq_some_iff.1 hb).1 (fun e' => ?_)
    obtain ⟨C, hC⟩ := hr b e'.symm
    rw [hb] at hC; cases hC; exact hne rfl
  refine ⟨?_, fun A n c e hn => ?_⟩
  · obtain ⟨A, n, c, rfl, hl, hc, hm, hcell⟩ := h1
    refine ⟨A, n, c, rfl, hl, hc, hm, fun hn => ?_⟩
    obtain ⟨ad, e, hce⟩ := hcell hn
    obtain ⟨b, o, C', hA, hh⟩ := h2 A n c rfl hn
    rw [e] at hA; cases hA
    refine ⟨_, e, fun j u hu => ?_⟩
    rw [← hce j u hu, add_plain]
    simp only [World.cell?, hkeep b C' hh]
  · obtain ⟨b, o, C', hA, hh⟩ := h2 A n c e hn
    exact ⟨b, o, C', hA, (hkeep b C' hh).trans hh⟩
end

theorem own_low {w : World} {base : Nat} {e : TypeId} {size n : Nat} {v : Value} {xs : List Value} (h : w.ownsRow base e size v n xs) {g : Nat} (hg : v.ownBlock = some g) : base ≤ g := by
  obtain ⟨hl, ⟨rfl, rfl⟩ | ⟨g', cap, cur, rfl, hb, r⟩⟩ := h
  · cases hg
  · cases hg; exact hb
theorem below_app {w0 w w' : World} {base : Nat} {e : TypeId} {size n : Nat} {v : Value} {xs : List Value} (hb : Below base w0 w) (hbase : base ≤ w.heap.size) (h : w.ownsRow base e size v n xs) (hg : w.grownBy w' v.ownBlock) : Below base w0 w' :=
  hb.grown hg hbase (fun _ hb => own_low h hb)
/-- A book while its ladders come in. -/
structure BookG (w : World) (base Bk bm : Nat) (lv gv fv : Value) (ls : List La) (m : List Kv) (ng nf : Nat) : Prop where
  blk : Cel w Bk 114 #[lv, .map (some bm), gv, fv]
  hB : base ≤ Bk
  hm : base ≤ bm
  lads : ∃ ps : List (La × Value), ps.map (·.1) = ls ∧ w.ownsRow base 33 2 lv ls.length (ladCells ps) ∧ ∀ p ∈ ps, SlT w 78 2 p.2 (unitsV p.1.us)
  place : MapS w bm m
  grp : w.ownsRow base 3 1 gv ng (grpV (List.range ng))
  fac : w.ownsRow base 121 2 fv nf (facCells (List.replicate nf (.slice none 0 0, .slice none 0 0)))
section
variable {w w' : World} {base Bk bm : Nat} {lv gv fv : Value} {ls : List La} {m : List Kv} {ng nf : Nat}
theorem BookG.below (h : BookG w base Bk bm lv gv fv ls m ng nf) (hb : Below w.heap.size w w') : BookG w' base Bk bm lv gv fv ls m ng nf := by
  obtain ⟨ps, e, h1, h2⟩ := h.lads
  exact ⟨h.blk.below h.blk.lt hb, h.hB, h.hm, ⟨ps, e, own_below h1 hb, fun p hp => (h2 p hp).below hb⟩, h.place.below h.place.lt hb, own_below h.grp hb, own_below h.fac hb⟩
theorem BookG.put (h : BookG w base Bk bm lv gv fv ls m ng nf) (k : ByteArray) (v : Value) : BookG (mapPut w bm k v) base Bk bm lv gv fv ls (m ++ [(k, v)]) ng nf := by
  obtain ⟨ps, e, h1, h2⟩ := h.lads
  have hg := h.place.put_grown k v
  have hkeep : ∀ (b : Nat) (C : Array Value) (t : TypeId), w.heap[b]? = some (Obj.cells C t (0, 0)) → (mapPut w bm k v).heap[b]? = w.heap[b]? := by
    intro b C t hb
    refine hg.block b (Array.getElem?_eq_some_iff.1 hb).1 (fun e' => ?_)
    obtain ⟨es, c, hh, _⟩ := h.place
    cases e'
    rw [hb] at hh; cases hh
  have hown : ∀ {e : TypeId} {size n : Nat} {v' : Value} {xs : List Value}, w.ownsRow base e size v' n xs → (mapPut w bm k v).ownsRow base e size v' n xs := by
    intro e size n v' xs ho
    obtain ⟨hl, ⟨rfl, rfl⟩ | ⟨g, cap, cur, rfl, hb, hh, r⟩⟩ := ho
    · exact ⟨hl, .inl ⟨rfl, rfl⟩⟩
    · exact ⟨hl, .inr ⟨g, cap, cur, rfl, hb, (hkeep g cur e hh).trans hh, r⟩⟩
  refine ⟨(hkeep Bk _ _ h.blk).trans h.blk, h.hB, h.hm, ⟨ps, e, hown h1, fun p hp => ?_⟩, h.place.put k v, hown h.grp, hown h.fac⟩
  obtain ⟨a1, a2⟩ := h2 p hp
  refine ⟨?_, fun A n c e hn => ?_⟩
  · obtain ⟨A, n, c, e, hl, hc, hmx, hcell⟩ := a1
    refine ⟨A, n, c, e, hl, hc, hmx, fun hn => ?_⟩
    obtain ⟨ad, e2, hce⟩ := hcell hn
    obtain ⟨b, o, C', hA, hh⟩ := a2 A n c e hn
    rw [e2] at hA; cases hA
    refine ⟨_, e2, fun j u hu => ?_⟩
    rw [← hce j u hu, add_plain]
    simp only [World.cell?, hkeep b C' _ hh]
  · obtain ⟨b, o, C', hA, hh⟩ := a2 A n c e hn
    exact ⟨b, o, C', hA, (hkeep b C' _ hh).trans hh⟩
theorem own_setBk {e : TypeId} {size n B : Nat} {v : Value} {xs : List Value} {t : TypeId} {vs : Array Value} (h : w.ownsRow base e size v n xs) (hB : Cel w B t vs) (hne : e ≠ t) (k : Nat) (x : Value) : (w.setCell ⟨B, k, none⟩ x).ownsRow base e size v n xs :=
  own_otherT h (p := ⟨B, k, none⟩) (C := vs) hB hne x
/-- A ladder more. -/
theorem BookG.addLad (h : BookG w base Bk bm lv gv fv ls m ng nf) (ps : List (La × Value)) (e : ps.map (·.1) = ls) (h1 : w.ownsRow base 33 2 lv ls.length (ladCells ps)) (h2 : ∀ p ∈ ps, SlT w 78 2 p.2 (unitsV p.1.us)) (x : La) (u : Value) (hu : SlT w 78 2 u (unitsV x.us)) {A : Option Addr} {c : Nat}
    (ha : Appended base 33 2 lv (ladCells ps) [.string x.nm, u] w w' A (ls.length + 1) c) :
    BookG (w'.setCell ⟨Bk, 0, none⟩ (.slice A (ls.length + 1) c)) base Bk bm (.slice A (ls.length + 1) c) gv fv (ls ++ [x]) m ng nf := by
  have hr : ∀ g, lv.ownBlock = some g → ∃ C, w.heap[g]? = some (.cells C 33 (0, 0)) := fun g hg => own_typed h1 hg
  have hB' := h.blk.keptT ha.grown hr (by decide)
  refine ⟨hB'.setAt 0 _, h.hB, h.hm, ⟨ps ++ [(x, u)], by simp [e], ?_, fun p hp => ?_⟩, (h.place.keptT ha.grown hr).setCell _ _, own_setBk (own_keptT h.grp ha.grown hr (by decide)) hB' (by decide) _ _, own_setBk (own_keptT h.fac ha.grown hr (by decide)) hB' (by decide) _ _⟩
  · have := own_setBk ha.own hB' (by decide) 0 (.slice A (ls.length + 1) c)
    have e2 : ladCells (ps ++ [(x, u)]) = ladCells ps ++ [.string x.nm, u] := by simp [ladCells]
    rw [e2]
    simpa using this
  · have hk : SlT w' 78 2 p.2 (unitsV p.1.us) := by
      rcases List.mem_append.1 hp with hp | hp
      · exact (h2 p hp).keptT ha.grown hr (by decide)
      · have : p = (x, u) := by simpa using hp
        subst this
        exact hu.keptT ha.grown hr (by decide)
    exact hk.setOther (p := ⟨Bk, 0, none⟩) hB' (by decide) _
/-- A label more. -/
theorem BookG.addGrp (h : BookG w base Bk bm lv gv fv ls m ng nf) {A : Option Addr} {c : Nat} (ha : Appended base 3 1 gv (grpV (List.range ng)) [.int .i64 (ng : Int)] w w' A (ng + 1) c) :
    BookG (w'.setCell ⟨Bk, 2, none⟩ (.slice A (ng + 1) c)) base Bk bm lv (.slice A (ng + 1) c) fv ls m (ng + 1) nf := by
  obtain ⟨ps, e, h1, h2⟩ := h.lads
  have hr : ∀ g, gv.ownBlock = some g → ∃ C, w.heap[g]? = some (.cells C 3 (0, 0)) := fun g hg => own_typed h.grp hg
  have hB' := h.blk.keptT ha.grown hr (by decide)
  refine ⟨hB'.setAt 2 _, h.hB, h.hm, ⟨ps, e, own_setBk (own_keptT h1 ha.grown hr (by decide)) hB' (by decide) _ _, fun p hp => ((h2 p hp).keptT ha.grown hr (by decide)).setOther (p := ⟨Bk, 2, none⟩) hB' (by decide) _⟩, (h.place.keptT ha.grown hr).setCell _ _, ?_, own_setBk (own_keptT h.fac ha.grown hr (by decide)) hB' (by decide) _ _⟩
  have := own_setBk ha.own hB' (by decide) 2 (.slice A (ng + 1) c)
  rwa [show grpV (List.range (ng + 1)) = grpV (List.range ng) ++ [.int .i64 (ng : Int)] by simp [grpV, List.range_succ]]
/-- A factor more. -/
theorem BookG.addFac (h : BookG w base Bk bm lv gv fv ls m ng nf) {A : Option Addr} {c : Nat} (ha : Appended base 121 2 fv (facCells (List.replicate nf (.slice none 0 0, .slice none 0 0))) [.slice none 0 0, .slice none 0 0] w w' A (nf + 1) c) :
    BookG (w'.setCell ⟨Bk, 3, none⟩ (.slice A (nf + 1) c)) base Bk bm lv gv (.slice A (nf + 1) c) ls m ng (nf + 1) := by
  obtain ⟨ps, e, h1, h2⟩ := h.lads
  have hr : ∀ g, fv.ownBlock = some g → ∃ C, w.heap[g]? = some (.cells C 121 (0, 0)) := fun g hg => own_typed h.fac hg
  have hB' := h.blk.keptT ha.grown hr (by decide)
  refine ⟨hB'.setAt 3 _, h.hB, h.hm, ⟨ps, e, own_setBk (own_keptT h1 ha.grown hr (by decide)) hB' (by decide) _ _, fun p hp => ((h2 p hp).keptT ha.grown hr (by decide)).setOther (p := ⟨Bk, 3, none⟩) hB' (by decide) _⟩, (h.place.keptT ha.grown hr).setCell _ _, own_setBk (own_keptT h.grp ha.grown hr (by decide)) hB' (by decide) _ _, ?_⟩
  have := own_setBk ha.own hB' (by decide) 3 (.slice A (nf + 1) c)
  rwa [show facCells (List.replicate (nf + 1) (.slice none 0 0, .slice none 0 0)) = facCells (List.replicate nf (.slice none 0 0, .slice none 0 0)) ++ [.slice none 0 0, .slice none 0 0] by rw [List.replicate_succ']; simp [facCells]]
theorem BookG.grown (h : BookG w base Bk bm lv gv fv ls m ng nf) {v : Value} {n size : Nat} {e : TypeId} {xs : List Value} (ho : w.ownsRow base e size v n xs) (hg : w.grownBy w' v.ownBlock) (hne : 114 ≠ e) : Cel w' Bk 114 #[lv, .map (some bm), gv, fv] :=
  h.blk.keptT hg (fun _ hb => own_typed ho hb) hne
/-- All ladders are in. -/
theorem BookG.toO (h : BookG w base Bk bm lv gv fv ls (placeM ls 0) ls.length ls.length) : BookO w base Bk bm lv gv fv (st0 ls) := by
  obtain ⟨ps, e, h1, h2⟩ := h.lads
  refine ⟨h.blk, h.hB, h.hm, ⟨ps, e, SlT.of_own h1, h2⟩, h.place, h.grp, List.replicate ls.length (.slice none 0 0, .slice none 0 0), h.fac, by simp [st0], fun k a b => ?_⟩
  simp only [List.getElem_replicate, st0]
  exact PV.nil w _
end
end

section
open Go Go.RowKit Go.Shelf
attribute [local go_sem] Oper.semAt_some

theorem brsV_length (l : List Br) : (brsV l).length = l.length * 6 := by
  induction l with
  | nil => rfl
  | cons u us ih => simp only [brsV, List.flatMap_cons, List.length_append] at ih ⊢; rw [ih]; simp [brV]; omega
theorem brsV_get {l : List Br} {k : Nat} (hk : k < l.length) (j : Nat) (hj : j < 6) : (brsV l)[k * 6 + j]? = (brV l[k])[j]? := by
  induction l generalizing k with
  | nil => simp at hk
  | cons u us ih =>
    have e : brsV (u :: us) = brV u ++ brsV us := rfl
    cases k with
    | zero => rw [e, Nat.zero_mul, Nat.zero_add, List.getElem?_append_left (by simpa [brV] using hj)]; rfl
    | succ k =>
      rw [e, List.getElem?_append_right (by simp [brV]; omega), show (k + 1) * 6 + j - (brV u).length = k * 6 + j by simp [brV]; omega]
      simpa using ih (k := k) (by simpa using hk)

theorem infoLad : (Tryd.prog.info? 33).map (fun i => (i.zero, i.size, i.bytes)) = some (some (.agg #[.string ⟨#[]⟩, .slice none 0 0]), 2, 40) := by kernel_rfl
theorem infoPrd : (Tryd.prog.info? 121).map (fun i => (i.zero, i.size, i.bytes)) = some (some (.agg #[.slice none 0 0, .slice none 0 0]), 2, 48) := by kernel_rfl
section
variable {a : Act} {w : World} {ops : Array Oper} {rest : List Oper} {o : Oper} {Q : Exit → Act → World → Prop} {K : Act → World → Prop} {E : Prop}
theorem stepLad (s x : Operand) (hgd : o.guard = none) (ho : o.op = .call { callee := .builtin .append, args := #[s, x], argTypes := #[42, 42] })
    {base n : Nat} {v vx : Value} {xs news : List Value} (hs : a.eval s = v) (hx : a.eval x = vx) (hown : w.ownsRow base 33 2 v n xs) (hr : Sl w 2 vx news) (h1 : ∀ u ∈ news, u.oneCell' = true)
    {N : Nat} (hN : n * 2 + news.length = N * 2) (hb : N ≤ 4398046511) (hbase : base ≤ w.heap.size)
    (h : ∀ A c w', Appended base 33 2 v xs news w w' A N c → K (a.put o.dst (.slice A N c)) w') : if Region.wanted o (yielded ops a.tmps) = true then Oper.wp Tryd.prog o a w K Q else E := by
  obtain ⟨i, hi, hz0, hz1, hz2⟩ := info_parts infoLad
  exact step_app w hgd s x 42 ho base 33 i (.agg #[.string ⟨#[]⟩, .slice none 0 0]) 2 40 Tryd.underlying42 hi hz0 hz1 hz2 rfl (by decide) v n xs hs hown vx news hx hr h1 N hN (by omega) (by decide) hbase h
theorem appPrd (s x : Operand) (hgd : o.guard = none) (ho : o.op = .call { callee := .builtin .append, args := #[s, x], argTypes := #[112, 112] })
    {base n : Nat} {v vx : Value} {xs news : List Value} (hs : a.eval s = v) (hx : a.eval x = vx) (hown : w.ownsRow base 121 2 v n xs) (hr : Sl w 2 vx news) (h1 : ∀ u ∈ news, u.oneCell' = true)
    {N : Nat} (hN : n * 2 + news.length = N * 2) (hb : N ≤ 4398046511) (hbase : base ≤ w.heap.size)
    (h : ∀ A c w', Appended base 121 2 v xs news w w' A N c → wpList Tryd.prog ops Q rest (a.put o.dst (.slice A N c)) w') : wpList Tryd.prog ops Q (o :: rest) a w := by
  obtain ⟨i, hi, hz0, hz1, hz2⟩ := info_parts infoPrd
  exact wpList_app w hgd s x 112 ho base 121 i (.agg #[.slice none 0 0, .slice none 0 0]) 2 48 Tryd.underlying112 hi hz0 hz1 hz2 rfl (by decide) v n xs hs hown vx news hx hr h1 N hN (by omega) (by decide) hbase h
end
theorem bridgesF_cons (st : St) (b : Br) (bs : List Br) : bridgesF st (b :: bs) = if (bridgeF st b).1 = 0 then bridgesF (bridgeF st b).2 bs else ((bridgeF st b).1, st) := rfl
theorem ladsE_cons (pre : List La) (l : La) (ls : List La) : ladsE pre (l :: ls) = if checkF l.nm l.us = 0 then (if (findL l.nm pre 0).isSome then 2 else ladsE (pre ++ [l]) ls) else checkF l.nm l.us := rfl

set_option maxRecDepth 100000 in
set_option maxHeartbeats 4000000 in
theorem newbook_any (ls : List La) (bs : List Br) (v u : Value) (w : World) (hl : LadsV w v ls) (hb : Sl w 6 u (brsV bs)) (E : Int) (st' : St) (hF : newF ls bs = (E, st')) :
    Calls Tryd.prog 35 #[v, u] w fun e w' => ∃ r, e = .returned (.tuple #[r, .int .i64 E]) ∧ Below w.heap.size w w' ∧ (E ≠ 0 → r = .pointer none) ∧
      (E = 0 → ∃ Bk bm lv gv fv, r = .pointer (some ⟨Bk, 0, none⟩) ∧ BookO w' w.heap.size Bk bm lv gv fv st') := by
  obtain ⟨A, c, rfl, hlc, hcm, hlk⟩ := hl.open
  obtain ⟨A', n', c', rfl, hm, hmc, hcm', hbk⟩ := hb.open2 (by decide)
  have hn' : n' = bs.length := by rw [brsV_length] at hm; omega
  subst hn'
  have hmm := @run_makeMap Tryd.prog
  have HLK := Lib.hid hlk
  have HBK := Lib.hid hbk
  have HF := Lib.hid hF
  clear hl hb hlk hbk hm hF
  go_enter Tryd.func35, Tryd.ntmps35
  by_cases h1 : 32 < ls.length
  · have d1 : decide ((32 : Int) < (ls.length : Int)) = true := decide_eq_true (by omega)
    have HE := Lib.hid (show E = 3 by have := HF.out; unfold newF at this; rw [if_pos (.inl h1)] at this; injection this with this; exact this.symm)
    clear h1
    go_wp2
    go_ret2
    exact ⟨_, by rw [HE.out] <;> rfl, Below.refl _ _, fun _ => rfl, fun h => by rw [HE.out] at h; cases h⟩
  · have d1 : decide ((32 : Int) < (ls.length : Int)) = false := decide_eq_false (by omega)
    by_cases h2 : 64 < bs.length
    · have d2 : decide ((64 : Int) < (bs.length : Int)) = true := decide_eq_true (by omega)
      have HE := Lib.hid (show E = 3 by have := HF.out; unfold newF at this; rw [if_pos (.inr h2)] at this; injection this with this; exact this.symm)
      clear h2
      go_wp2
      go_ret2
      exact ⟨_, by rw [HE.out] <;> rfl, Below.refl _ _, fun _ => rfl, fun h => by rw [HE.out] at h; cases h⟩
    · have d2 : decide ((64 : Int) < (bs.length : Int)) = false := decide_eq_false (by omega)
      have HF2 := Lib.hid (show (if ladsE [] ls = 0 then bridgesF (st0 ls) bs else (ladsE [] ls, st0 ls)) = (E, st') by
        have := HF.out; unfold newF at this; rwa [if_neg (by omega)] at this)
      have hg0 : BookG ((w.alloc (.map #[] 0)).alloc (.cells #[.slice none 0 0, .map (some w.heap.size), .slice none 0 0, .slice none 0 0] 114)) w.heap.size (w.heap.size + 1) w.heap.size (.slice none 0 0) (.slice none 0 0) (.slice none 0 0) [] [] 0 0 :=
        ⟨Cel.at _ _ _ _ (by simp), by omega, Nat.le_refl _, ⟨[], rfl, World.ownsRow_nil _ _ _ _, fun p hp => by cases hp⟩, (MapS.new w).alloc _, World.ownsRow_nil _ _ _ _, World.ownsRow_nil _ _ _ _⟩
      have hw0 : Below w.heap.size w ((w.alloc (.map #[] 0)).alloc (.cells #[.slice none 0 0, .map (some w.heap.size), .slice none 0 0, .slice none 0 0] 114)) := (below_alloc' _ _).alloc (by simp) _
      have HG0 := Lib.hid hg0
      have HW0 := Lib.hid hw0
      clear hg0 hw0
      go_wp2
      go_loopw [28] (fun t28 wr => ∃ (k : Nat) (lv gv fv : Value), t28 = .int .i64 k ∧ k ≤ ls.length ∧ BookG wr w.heap.size (w.heap.size + 1) w.heap.size lv gv fv (ls.take k) (placeM (ls.take k) 0) k k ∧ ladsE (ls.take k) (ls.drop k) = ladsE [] ls ∧ Below w.heap.size w wr)
        (fun t28 _ => ls.length - (intOf t28).toNat)
      case atStart => exact ⟨0, _, _, _, rfl, by omega, HG0.out, rfl, HW0.out⟩
      case round =>
        obtain ⟨k, lv, gv, fv, rfl, hk, hG, hE, hB⟩ := hrel
        have HG := Lib.hid hG
        have HE := Lib.hid hE
        have HB := Lib.hid hB
        clear hG hE hB
        by_cases hlt : k < ls.length
        · have dd : decide ((k : Int) < (ls.length : Int)) = true := decide_eq_true (by omega)
          have hk3 : IntKind.i64.wrap ((k : Int) + 1) = ((k + 1 : Nat) : Int) := by rw [Int.natCast_add]; exact IntWalk.i64_in _ (by omega)
          obtain ⟨lb, lo, A1, c1, rfl, hlb, e0, e1, hsl⟩ := HLK.out k hlt
          obtain ⟨x, hx⟩ : ∃ x, ls[k] = x := ⟨_, rfl⟩
          rw [hx] at e0 e1 hsl
          have e0' := below_cell HB.out e0
          have e1' := below_cell HB.out e1
          have hW1 : Below w.heap.size w (wr.alloc (.cells #[.string x.nm, .slice A1 x.us.length c1] 33)) := HB.out.alloc HB.out.size _
          have HC := Lib.hid (check_any x.nm x.hn (.agg #[.string x.nm, .slice A1 x.us.length c1]) x.us (wr.alloc (.cells #[.string x.nm, .slice A1 x.us.length c1] 33)) ⟨_, _, _, rfl, hsl.below hW1⟩)
          have hdrop : ls.drop k = x :: ls.drop (k + 1) := by rw [← hx]; exact List.drop_eq_getElem_cons hlt
          have HE2 := HE.out
          rw [hdrop, ladsE_cons] at HE2
          have HSL := Lib.hid hsl
          have HX := Lib.hid hx
          have HW1 := Lib.hid hW1
          clear hsl hx hW1 hdrop e0 e1
          generalize hce : checkF x.nm x.us = ce at *
          by_cases hc : ce = 0
          · have dc : (ce != 0) = false := by simp [hc]
            rw [if_pos hc] at HE2
            have HCE := Lib.hid (hce.trans hc)
            have HE3 := Lib.hid HE2
            have HGB := Lib.hid (HG.out.below (below_alloc' wr (.cells #[.string x.nm, .slice A1 x.us.length c1] 33)))
            have HYB := Lib.hid (Cel.new wr 33 #[.string x.nm, .slice A1 x.us.length c1])
            clear hce HE2 hc
            go_wp2_with (go_at_call 31; refine HC.out.mono ?_; rintro e w1 ⟨rfl, hb1⟩; have hG1 := HGB.out.below hb1; have hY1 := HYB.out.below HYB.out.lt hb1; have m1 := hG1.blk.cell 1 (.map (some w.heap.size)) rfl; have b0 := hY1.cell 0 (.string x.nm) rfl; have HG1 := Lib.hid hG1; have HY1 := Lib.hid hY1; have HB1 := Lib.hid (HW1.out.trans (hb1.mono HW1.out.size)); clear hG1 hY1 hb1)
            have hlk := HG1.out.place.drew.lookup (P := Tryd.prog) (t := 111) Tryd.underlying111 Tryd.underlying9 (Tryd.zeroValue3 w1.drew) x.nm true
            rw [getM_place] at hlk
            cases hf : findL x.nm (ls.take k) 0 with
            | some j =>
              rw [hf] at hlk
              simp only [Option.map_some] at hlk
              have HEE := Lib.hid (show E = 2 by
                have h3 := HE3.out
                rw [hf] at h3
                have := HF2.out
                rw [← h3] at this
                simp at this
                exact this.1.symm)
              clear hf
              go_region
              all_goals (
                go_wp2
                go_ret2
                exact ⟨_, by rw [HEE.out] <;> rfl, below_drew HB1.out, fun _ => rfl, fun h => by rw [HEE.out] at h; cases h⟩)
            | none =>
              rw [hf] at hlk
              simp only [Option.map_none] at hlk
              have HE4 := Lib.hid (show ladsE (ls.take (k + 1)) (ls.drop (k + 1)) = ladsE [] ls by
                have h3 := HE3.out
                rw [hf] at h3
                rw [← h3, List.take_succ_eq_append_getElem hlt, HX.out]; rfl)
              have HNEW := Lib.hid (show getM (placeM (ls.take k) 0) x.nm = none by rw [getM_place, hf]; rfl)
              clear hf
              have hup := fun W (h : MapS W w.heap.size (placeM (ls.take k) 0)) => h.update (P := Tryd.prog) (t := 111) Tryd.underlying111 Tryd.underlying9 x.nm (.int .i64 (k : Int)) HNEW.out
              have hup1 := hup w1.drew.drew HG1.out.place.drew.drew
              go_region
              go_wp2
              go_region
              obtain ⟨V, hV⟩ : ∃ V, mapPut w1.drew.drew w.heap.size x.nm (.int .i64 (k : Int)) = V := ⟨_, rfl⟩
              have hg2 : BookG V w.heap.size (w.heap.size + 1) w.heap.size lv gv fv (ls.take k) (placeM (ls.take k) 0 ++ [(x.nm, .int .i64 (k : Int))]) k k := by
                rw [← hV]
                exact (HG1.out.below (below_drew (below_drew (Below.refl _ _)))).put x.nm (.int .i64 (k : Int))
              have hbV : Below w.heap.size w V := by
                rw [← hV]
                exact HG1.out.place.drew.drew.put_below x.nm _ (below_drew (below_drew HB1.out)) (Nat.le_refl _) (Nat.le_refl _)
              have hgr : (w1.drew.drew).grownBy V (some w.heap.size) := by
                rw [← hV]; exact HG1.out.place.drew.drew.put_grown x.nm _
              have hyl := HYB.out.lt
              have hy2 : Cel V wr.heap.size 33 #[.string x.nm, .slice A1 x.us.length c1] := Cel.kept (W := w1.drew.drew) HY1.out hgr (by have := HG.out.blk.lt; simp; omega)
              rw [hV]
              clear hV hgr m1 b0 hup hup1 hlk
              have hps := hg2.lads
              rw [show (ls.take k).length = k by simp; omega] at hps
              obtain ⟨ps, hps1, hps2, hps3⟩ := hps
              have c0 := hg2.blk.cell 0 lv rfl
              have c1' := hy2.cell 0 (.string x.nm) rfl
              have c2' := hy2.cell 1 (.slice A1 x.us.length c1) rfl
              have z0 := hg2.blk.frozen 0
              have hle12 : x.us.length ≤ 12 := by
                have := HCE.out
                unfold checkF checkB at this
                split at this
                · rename_i h; simp at h; omega
                · cases this
              have HLE := Lib.hid hle12
              have HPS1 := Lib.hid hps1
              have HPS2 := Lib.hid hps2
              have HPS3 := Lib.hid hps3
              have HG2 := Lib.hid hg2
              have HBV := Lib.hid hbV
              have HSV := Lib.hid (HSL.out.below hbV)
              have HY2 := Lib.hid hy2
              clear hps1 hps2 hps3 hg2 hbV hy2 hyl hle12
              go_wp2
              go_region_law (first
                | (go_simp; go_at_call 98; refine (copied_any x.nm A1 c1 x.us _ HSV.out.drew (by have := HLE.out; omega)).mono ?_; rintro e w3 ⟨A2, c2, rfl, hb3, hown3⟩; have hbl3 : Below V.heap.size V w3 := below_undrew hb3; have HO3 := Lib.hid hown3; have r0 := below_cell hbl3 c0; have r3 := below_cell (below_alloc' w3 (.cells #[.string x.nm, .slice A2 x.us.length c2] 33)) r0; have r1 := below_cell hbl3 c1'; have r2 := below_cell hbl3 c2'; clear hown3)
                | (refine stepLad (.tmp 60) (.tmp 63) rfl rfl (by rfl) (by rfl) ((own_below HPS2.out hbl3).alloc _) (Sl.new (s := 2) w3 33 1 1 #[.string x.nm, .slice A2 x.us.length c2] rfl (Nat.le_refl _) (by decide)) (by simp [Value.oneCell']) (N := k + 1) (by simp [Nat.add_mul]) (by omega) (by have := HBV.out.size; have := hbl3.size; simp; omega) ?_; intro A4 c4 w4 hap; have HAP := Lib.hid hap; have hb4 := ((HG2.out.below hbl3).below (below_alloc' _ (.cells #[.string x.nm, .slice A2 x.us.length c2] 33))).grown ((own_below HPS2.out hbl3).alloc _) hap.grown (by decide); have q0 := hb4.cell 0 lv rfl; have q1 := hb4.frozen 0; clear hap hb4))
              all_goals (
                obtain ⟨V4, hV4⟩ : ∃ V4, w4.setCell ⟨w.heap.size + 1, 0, none⟩ (.slice A4 (k + 1) c4) = V4 := ⟨_, rfl⟩
                have hkl : (ls.take k).length = k := by simp; omega
                have hw3 := below_alloc' w3 (.cells #[.string x.nm, .slice A2 x.us.length c2] 33)
                have hl3 := hbl3.size
                have hvs := HBV.out.size
                have hg4 : BookG V4 w.heap.size (w.heap.size + 1) w.heap.size (.slice A4 (k + 1) c4) gv fv (ls.take k ++ [x]) (placeM (ls.take k) 0 ++ [(x.nm, .int .i64 (k : Int))]) k k := by
                  rw [← hV4]
                  have h1 := (own_below HPS2.out hbl3).alloc (.cells #[.string x.nm, .slice A2 x.us.length c2] 33)
                  have h2 := HAP.out
                  have h3 := ((HG2.out.below hbl3).below hw3)
                  have h4 : ∀ p ∈ ps, SlT (w3.alloc (.cells #[.string x.nm, .slice A2 x.us.length c2] 33)) 78 2 p.2 (unitsV p.1.us) := fun p hp => ((HPS3.out p hp).below hbl3).below hw3
                  have h5 := (SlT.of_own HO3.out).below hw3
                  have := h3.addLad ps HPS1.out (by rw [hkl]; exact h1) h4 x (.slice A2 x.us.length c2) h5 (A := A4) (c := c4) (by rw [hkl]; exact h2)
                  rwa [hkl] at this
                have hb4 : Below w.heap.size w V4 := by
                  rw [← hV4]
                  have h1 : Below w.heap.size w (w3.alloc (.cells #[.string x.nm, .slice A2 x.us.length c2] 33)) := (HBV.out.trans (hbl3.mono hvs)).alloc (by omega) _
                  have h2 := (own_below HPS2.out hbl3).alloc (.cells #[.string x.nm, .slice A2 x.us.length c2] 33)
                  exact (below_app h1 h1.size h2 HAP.out.grown).setCell (p := ⟨w.heap.size + 1, 0, none⟩) (by simp) _
                rw [hV4]
                clear hV4 hw3 q0 q1 r0 r1 r2 r3 hkl
                have k0 := hg4.blk.cell 2 gv rfl
                have k1 := hg4.blk.frozen 2
                have HG4 := Lib.hid hg4
                have HB4 := Lib.hid hb4
                clear hg4 hb4
                go_wp2_with (first
                  | (at_builtin; refine appInt _ _ rfl rfl rfl rfl (HG4.out.grp.alloc _) (Sl.new (s := 1) V4 3 1 1 #[.int .i64 (k : Int)] rfl (Nat.le_refl _) (by decide)) (by simp [Value.oneCell']) rfl (by simp; omega) (by have := HB4.out.size; simp; omega) ?_; intro A5 c5 w5 hap5; have hc5 := (HG4.out.below (below_alloc' V4 (.cells #[.int .i64 (k : Int)] 3))).grown (HG4.out.grp.alloc _) hap5.grown (by decide); have q0 := hc5.cell 2 gv rfl; have q1 := hc5.frozen 2; have HG5 := Lib.hid ((HG4.out.below (below_alloc' V4 (.cells #[.int .i64 (k : Int)] 3))).addGrp hap5); have HB5 := Lib.hid ((below_app (HB4.out.alloc HB4.out.size (.cells #[.int .i64 (k : Int)] 3)) (HB4.out.alloc HB4.out.size (.cells #[.int .i64 (k : Int)] 3)).size (HG4.out.grp.alloc _) hap5.grown).setCell (p := ⟨w.heap.size + 1, 2, none⟩) (by simp) (.slice A5 (k + 1) c5)); have q2 := HG5.out.blk.cell 3 fv rfl; clear hap5 hc5)
                  | (at_builtin; refine appPrd _ _ rfl rfl rfl rfl (HG5.out.fac.alloc _) ((Cel.at (w5.setCell ⟨w.heap.size + 1, 2, none⟩ (.slice A5 (k + 1) c5)) w5.heap.size 121 #[.slice none 0 0, .slice none 0 0] (by simp)).sl (s := 2) (xs := [.slice none 0 0, .slice none 0 0]) rfl rfl (Nat.le_refl 1) (by decide)) (by simp [Value.oneCell']) (N := k + 1) (by simp [Nat.add_mul]) (by omega) (by have := HB5.out.size; simp at this ⊢; omega) ?_; intro A6 c6 w6 hap6; have hc6 := (HG5.out.below (below_alloc' _ (.cells #[.slice none 0 0, .slice none 0 0] 121))).grown (HG5.out.fac.alloc _) hap6.grown (by decide); have p0 := hc6.cell 3 fv rfl; have p1 := hc6.frozen 3; have HG6 := Lib.hid ((HG5.out.below (below_alloc' _ (.cells #[.slice none 0 0, .slice none 0 0] 121))).addFac hap6); have HB6 := Lib.hid ((below_app (HB5.out.alloc HB5.out.size (.cells #[.slice none 0 0, .slice none 0 0] 121)) (HB5.out.alloc HB5.out.size (.cells #[.slice none 0 0, .slice none 0 0] 121)).size (HG5.out.fac.alloc _) hap6.grown).setCell (p := ⟨w.heap.size + 1, 3, none⟩) (by simp) (.slice A6 (k + 1) c6)); clear hap6 hc6))
                go_roundw
                case rel =>
                  have e1 : ls.take k ++ [x] = ls.take (k + 1) := by rw [List.take_succ_eq_append_getElem hlt, HX.out]
                  have e2 : placeM (ls.take k) 0 ++ [(x.nm, .int .i64 (k : Int))] = placeM (ls.take (k + 1)) 0 := by
                    rw [← e1, placeM_append]; simp; omega
                  have hG6 := HG6.out
                  rw [e1, e2] at hG6
                  exact ⟨k + 1, _, _, _, rfl, hlt, hG6, HE4.out, HB6.out⟩
                case measure => simp [intOf]; omega)
          · have dc : (ce != 0) = true := bne_iff_ne.2 hc
            rw [if_neg hc] at HE2
            have HEE := Lib.hid (show E = ce by
              have := HF2.out
              rw [← HE2, if_neg hc] at this
              injection this with this; exact this.symm)
            have HCC := Lib.hid hc
            clear hc HE2 hce
            go_wp2_with (go_at_call 31; refine HC.out.mono ?_; rintro e w1 ⟨rfl, hb1⟩)
            go_ret2
            exact ⟨_, by rw [HEE.out] <;> rfl, HW1.out.trans (hb1.mono HW1.out.size), fun _ => rfl, fun h => by rw [HEE.out] at h; exact absurd h HCC.out⟩
        · have hkn : k = ls.length := by omega
          have dd : decide ((k : Int) < (ls.length : Int)) = false := decide_eq_false (by omega)
          have ht : ls.take k = ls := List.take_of_length_le (by omega)
          have hd : ls.drop k = [] := List.drop_eq_nil_of_le (by omega)
          have hE0 : ladsE [] ls = 0 := by have := HE.out; rw [ht, hd] at this; exact this.symm
          have hF3 : bridgesF (st0 ls) bs = (E, st') := by have := HF2.out; rwa [if_pos hE0] at this
          have hO : BookO wr w.heap.size (w.heap.size + 1) w.heap.size lv gv fv (st0 ls) := by
            have := HG.out
            rw [ht, hkn] at this
            exact this.toO
          have HO := Lib.hid hO
          have HGd := Lib.hid (good_st0 (by omega) (ladsE_ok hE0))
          have HF3 := Lib.hid hF3
          clear hkn ht hd hE0 hF3 hO HF HF2 HG HE HLK HG0 HW0 hmm
          go_wp2
          go_loopw [90] (fun t90 w2 => ∃ (n : Nat) (st : St), t90 = .int .i64 n ∧ n ≤ bs.length ∧ BookO w2 w.heap.size (w.heap.size + 1) w.heap.size lv gv fv st ∧ Good st ∧ bridgesF st (bs.drop n) = (E, st') ∧ Below w.heap.size w w2)
            (fun t90 _ => bs.length - (intOf t90).toNat)
          case atStart => exact ⟨0, _, rfl, by omega, HO.out, HGd.out, HF3.out, HB.out⟩
          case round =>
            obtain ⟨n, st, rfl, hn, hO2, hG2, hF2, hB2⟩ := hrel
            have HO2 := Lib.hid hO2
            have HG2 := Lib.hid hG2
            have HF4 := Lib.hid hF2
            have HB2 := Lib.hid hB2
            clear hO2 hG2 hF2 hB2
            by_cases hlt2 : n < bs.length
            · have dd2 : decide ((n : Int) < (bs.length : Int)) = true := decide_eq_true (by omega)
              have hk3 : IntKind.i64.wrap ((n : Int) + 1) = ((n + 1 : Nat) : Int) := by rw [Int.natCast_add]; exact IntWalk.i64_in _ (by omega)
              obtain ⟨b, o, rfl, hbl, hce⟩ := HBK.out (by omega)
              obtain ⟨x, hx⟩ : ∃ x, bs[n] = x := ⟨_, rfl⟩
              have hcell : ∀ j u, j < 6 → (brV x)[j]? = some u → wr.cell? ⟨b, o + n * 6 + j, none⟩ = some u := by
                intro j u hj hu
                rw [Nat.add_assoc]
                exact below_cell HB2.out (hce _ _ (by rw [brsV_get hlt2 j hj, hx]; exact hu))
              have f0 := hcell 0 _ (by decide) rfl
              have f1 := hcell 1 _ (by decide) rfl
              have f2 := hcell 2 _ (by decide) rfl
              have f3 := hcell 3 _ (by decide) rfl
              have f4 := hcell 4 _ (by decide) rfl
              have f5 := hcell 5 _ (by decide) rfl
              rw [Nat.add_zero] at f0
              have hdrop : bs.drop n = x :: bs.drop (n + 1) := by rw [← hx]; exact List.drop_eq_getElem_cons hlt2
              have hF5 := HF4.out
              rw [hdrop, bridgesF_cons] at hF5
              have hbc := bridge_any w.heap.size (w.heap.size + 1) w.heap.size lv gv fv st x (wr.alloc (.cells #[.string x.A, .string x.SA, .string x.B, .string x.SB, .int .i64 x.N, .int .i64 x.D] 83)) (HO2.out.below (below_alloc' _ _)) HG2.out (by have := HB2.out.size; simp; omega)
              have hgd := good_bridge st x HG2.out
              rcases hbf : bridgeF st x with ⟨e, st2⟩
              rw [hbf] at hbc hF5 hgd
              simp only at hbc hF5 hgd
              have HBC := Lib.hid hbc
              have HGD := Lib.hid hgd
              have hb3 : Below w.heap.size w (wr.alloc (.cells #[.string x.A, .string x.SA, .string x.B, .string x.SB, .int .i64 x.N, .int .i64 x.D] 83)) := HB2.out.alloc HB2.out.size _
              have HB3 := Lib.hid hb3
              have HBF := Lib.hid hbf
              clear hbc hgd hb3 hcell hce hdrop hx hbf hbl
              by_cases he : e = 0
              · rw [if_pos he] at hF5
                have HF6 := Lib.hid hF5
                have de : (e != 0) = false := by simp [he]
                clear he hF5
                go_wp2_with (go_at_call 99; refine HBC.out.mono ?_; rintro e w3 ⟨rfl, hb4, hO4⟩; have HO4 := Lib.hid hO4; have HB4 := Lib.hid (HB3.out.trans hb4); clear hb4 hO4)
                go_roundw
                case rel => exact ⟨n + 1, st2, rfl, hlt2, HO4.out, HGD.out, HF6.out, HB4.out⟩
                case measure => simp [intOf]; omega
              · rw [if_neg he] at hF5
                injection hF5 with hF6 hF7
                have HEE := Lib.hid hF6
                have HNE := Lib.hid he
                have de : (e != 0) = true := bne_iff_ne.2 he
                clear he hF6 hF7
                go_wp2_with (go_at_call 99; refine HBC.out.mono ?_; rintro e w3 ⟨rfl, hb4, hO4⟩; have HB4 := Lib.hid (HB3.out.trans hb4); clear hb4 hO4)
                go_ret2
                exact ⟨_, by rw [← HEE.out] <;> rfl, HB4.out, fun _ => rfl, fun h => by rw [← HEE.out] at h; exact absurd h HNE.out⟩
            · have dd2 : decide ((n : Int) < (bs.length : Int)) = false := decide_eq_false (by omega)
              have hd2 : bs.drop n = [] := List.drop_eq_nil_of_le (by omega)
              have hF5 := HF4.out
              rw [hd2] at hF5
              have hF6 : ((0 : Int), st) = (E, st') := hF5
              injection hF6 with hF7 hF8
              have HEE := Lib.hid hF7
              have HSS := Lib.hid hF8
              clear hd2 hF5 hF7 hF8
              go_wp2
              go_ret2
              exact ⟨_, by rw [← HEE.out] <;> rfl, HB2.out, fun h => by rw [← HEE.out] at h; exact absurd rfl h, fun _ => ⟨_, _, _, _, _, rfl, by rw [← HSS.out]; exact HO2.out⟩⟩
end
end Go.Proofs.YtmibpncmebhbjaaDoor
