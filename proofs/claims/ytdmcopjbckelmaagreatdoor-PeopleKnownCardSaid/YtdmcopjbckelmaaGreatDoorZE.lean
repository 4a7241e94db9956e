/- Maps from strings that the call makes, with what a range over them needs. Conditions: those stated. Plain: what sorting and compacting gives; the steps of above. No condition. Plain: the steps up from people, level by level. No condition. Walks of the package people: above. Conditions: those stated. Walks of the package people: Kin. Conditions: those stated. Walks of the package people: the closure of Heirs. Conditions: those stated. Walks of the package people: Heirs. Conditions: those stated. Walks of the package people: Heirs, Kin, whole. Conditions: those stated. -/
import Derived.Test.YtdmcopjbckelmaaGreatDoorZD
import Derived.Maps.OwnIn
import Derived.Maps.RangeRun
import Derived.Sort.Walk0
namespace Go.Proofs.YtdmcopjbckelmaaGreatDoor
section
open Go Go.RowKit Go.Shelf
attribute [local go_sem] Oper.semAt_some

def getM (m : List Kv) (k : ByteArray) : Option Value := (m.find? (fun p => decide (k = p.1))).map (·.2)
theorem getM_nil (k : ByteArray) : getM [] k = none := rfl
theorem getM_append_new (m : List Kv) (k k' : ByteArray) (v : Value) (h : getM m k' = none) : getM (m ++ [(k', v)]) k = if k = k' then some v else getM m k := by
  unfold getM at *
  rw [List.find?_append]
  by_cases e : k = k'
  · subst e
    have : m.find? (fun p => decide (k = p.1)) = none := by simpa using h
    simp [this]
  · cases hf : m.find? (fun p => decide (k = p.1)) <;> simp [e]
theorem findNow_str (k : ByteArray) (m : List Kv) : ∀ (es : List MapEntry) (i : Nat), es.map (fun e => (e.key, e.val)) = m.map (fun p => (Value.string p.1, p.2)) →
    ∃ o, Instr.findNow .string (.string k) es i = some o ∧ o.map (·.2) = getM m k := by
  induction m with
  | nil => intro es i h; have : es = [] := by simpa using h
           subst this; exact ⟨none, rfl, rfl⟩
  | cons p m ih =>
    intro es i h
    cases es with
    | nil => simp at h
    | cons e es =>
      simp only [List.map_cons, List.cons.injEq, Prod.mk.injEq] at h
      obtain ⟨⟨h1, h2⟩, h3⟩ := h
      unfold Instr.findNow
      rw [h1]
      simp only [Instr.sameNow, bytes_beq]
      by_cases e' : k = p.1
      · refine ⟨some (i, e.val), by simp [e'], ?_⟩
        simp [getM, h2, e']
      · obtain ⟨o, ho, ho'⟩ := ih es (i + 1) h3
        refine ⟨o, by simp [e', ho], ?_⟩
        rw [ho']; unfold getM; rw [List.find?_cons, decide_eq_false e']
theorem check_str {P : Program} {w : World} {kt : TypeId} (hk : P.underlying kt = some .string) (em : Bool) (k : ByteArray) : (Instr.checkKey em 10000 kt (.string k)).run P w = .ok () w := by
  unfold Instr.checkKey
  simp [run_underlying hk, Result.andThen]
theorem MapS.lookup {P : Program} {w : World} {b : Nat} {m : List Kv} (h : MapS w b m) {t kt et : TypeId} (ht : P.underlying t = some (.map kt et)) (hk : P.underlying kt = some .string) {z : Value} (hz : (zeroValue et).run P w = .ok z w) (k : ByteArray) (c : Bool) :
    (Instr.lookup t (.map (some b)) (.string k) c).run P w = .ok (match getM m k with | some v => if c then .tuple #[v, .bool true] else v | none => if c then .tuple #[z, .bool false] else z) w := by
  obtain ⟨es, ck, hb, he⟩ := h
  obtain ⟨o, ho, ho'⟩ := findNow_str k m es.toList 0 he
  have hck := fun em => check_str (w := w) hk em k
  rw [← ho']
  cases o with
  | none => simp [Instr.lookup, run_underlying ht, run_underlying hk, MapKept.run_getObj_map hb, hck, Instr.findKey, ho, hz, Result.andThen]
  | some x => simp [Instr.lookup, run_underlying ht, run_underlying hk, MapKept.run_getObj_map hb, hck, Instr.findKey, ho, Result.andThen]
/-- The world behind a store under a new key. -/
def mapPut (w : World) (b : Nat) (k : ByteArray) (v : Value) : World :=
  match w.heap[b]? with
  | some (.map es c) => ChangeMaps.setBlock w b (.map (es.push { key := .string k, val := v, born := c }) (c + 1))
  | _ => w
theorem MapS.update {P : Program} {w : World} {b : Nat} {m : List Kv} (h : MapS w b m) {t kt et : TypeId} (ht : P.underlying t = some (.map kt et)) (hk : P.underlying kt = some .string) (k : ByteArray) (v : Value) (hnew : getM m k = none) :
    (Instr.mapUpdate t (.map (some b)) (.string k) v).run P w = .ok () (mapPut w b k v) := by
  obtain ⟨es, ck, hb, he⟩ := h
  obtain ⟨o, ho, ho'⟩ := findNow_str k m es.toList 0 he
  have hck := fun em => check_str (w := w) hk em k
  have : o = none := by rw [hnew] at ho'; simpa using ho'
  subst this
  simp [Instr.mapUpdate, run_underlying ht, run_underlying hk, MapKept.run_getObj_map hb, hck, Instr.findKey, ho, Result.andThen, mapPut, hb, MapKept.run_setObj_map _ hb, ChangeMaps.setBlock]
theorem MapS.put_grown {w : World} {b : Nat} {m : List Kv} (h : MapS w b m) (k : ByteArray) (v : Value) : w.grownBy (mapPut w b k v) (some b) := by
  obtain ⟨es, ck, hb, he⟩ := h
  simp only [mapPut, hb]
  exact ⟨rfl, rfl, rfl, by simp [ChangeMaps.setBlock], fun i _ hi => ChangeMaps.heap_setBlock_other hb _ (fun e => hi (by rw [e]))⟩
theorem MapS.put {w : World} {b : Nat} {m : List Kv} (h : MapS w b m) (k : ByteArray) (v : Value) : MapS (mapPut w b k v) b (m ++ [(k, v)]) := by
  obtain ⟨es, ck, hb, he⟩ := h
  simp only [mapPut, hb]
  exact ⟨_, _, ChangeMaps.heap_setBlock_same hb _, by simp [he]⟩

theorem setBlock_same {w : World} {r : Nat} (h : r < w.heap.size) (o : Obj) : (ChangeMaps.setBlock w r o).heap[r]? = some o := by
  simp [ChangeMaps.setBlock, h]
theorem setBlock_other {w : World} {r k : Nat} (o : Obj) (h : k ≠ r) : (ChangeMaps.setBlock w r o).heap[k]? = w.heap[k]? := by
  have : r ≠ k := Ne.symm h
  simp [ChangeMaps.setBlock, this]
def strK : Value → ByteArray
  | .string s => s
  | _ => ByteArray.empty
def kvOf (e : MapEntry) : Kv := (strK e.key, e.val)
/-- Block b is a map that holds m, and its entries' stamps are in order. -/
def MapW (w : World) (b : Nat) (m : List Kv) : Prop :=
  ∃ es c, w.heap[b]? = some (.map es c) ∧ es.toList.map kvOf = m ∧ (∀ e ∈ es.toList, ∃ s, e.key = .string s) ∧ (∀ e ∈ es.toList, e.born < c) ∧ (es.toList.map (·.born)).Nodup
theorem MapW.s {w : World} {b : Nat} {m : List Kv} (h : MapW w b m) : MapS w b m := by
  obtain ⟨es, c, hh, rfl, hk, _⟩ := h
  refine ⟨es, c, hh, ?_⟩
  rw [List.map_map]
  apply List.map_congr_left
  intro e he
  obtain ⟨s, hs⟩ := hk e he
  simp [kvOf, hs, strK]
theorem MapW.lt {w : World} {b : Nat} {m : List Kv} (h : MapW w b m) : b < w.heap.size := h.s.lt
theorem MapW.same {w w' : World} {b : Nat} {m : List Kv} (h : MapW w b m) (e : w'.heap[b]? = w.heap[b]?) : MapW w' b m := by
  obtain ⟨es, c, h, h'⟩ := h; exact ⟨es, c, e.trans h, h'⟩
theorem MapW.below {w w' : World} {b n : Nat} {m : List Kv} (h : MapW w b m) (hn : b < n) (hb : Below n w w') : MapW w' b m := h.same (hb.block _ hn)
theorem MapW.kept {w w' : World} {row : Option Nat} {b : Nat} {m : List Kv} (h : MapW w b m) (hg : w.grownBy w' row) (hne : some b ≠ row) : MapW w' b m := h.same (hg.block b h.lt hne)
theorem MapW.alloc {w : World} {b : Nat} {m : List Kv} (h : MapW w b m) (o : Obj) : MapW (w.alloc o) b m := h.kept (World.grownBy_alloc w o none) (by simp)
theorem MapW.new (w : World) : MapW (w.alloc (.map #[] 0)) w.heap.size [] := ⟨#[], 0, World.alloc_heap_new w _, rfl, by simp, by simp, by simp⟩
theorem MapW.put {w : World} {b : Nat} {m : List Kv} (h : MapW w b m) (k : ByteArray) (v : Value) : MapW (mapPut w b k v) b (m ++ [(k, v)]) := by
  obtain ⟨es, ck, hb, rfl, hk, hbn, hnd⟩ := h
  simp only [mapPut, hb]
  refine ⟨_, _, ChangeMaps.heap_setBlock_same hb _, by simp [kvOf, strK], ?_, ?_, ?_⟩
  · intro e he
    simp only [Array.toList_push, List.mem_append, List.mem_singleton] at he
    rcases he with he | rfl
    · exact hk e he
    · exact ⟨k, rfl⟩
  · intro e he
    simp only [Array.toList_push, List.mem_append, List.mem_singleton] at he
    rcases he with he | rfl
    · have := hbn e he; omega
    · simp
  · rw [Array.toList_push, List.map_append, List.nodup_append]
    refine ⟨hnd, by simp, ?_⟩
    intro x hx y hy
    simp only [List.map_cons, List.map_nil, List.mem_singleton] at hy
    obtain ⟨e, he, rfl⟩ := List.mem_map.1 hx
    have := hbn e he
    omega
/-- Block r is an iterator over the map in block b; these entries are still to come. -/
def RangeW (w : World) (b r : Nat) (m rest : List Kv) : Prop :=
  ∃ es clock since seen c0, w.heap[b]? = some (.map es clock) ∧ es.toList.map kvOf = m ∧ (∀ e ∈ es.toList, ∃ s, e.key = .string s) ∧ (∀ e ∈ es.toList, e.born < since) ∧ (es.toList.map (·.born)).Nodup ∧ since ≤ c0 ∧ since ≤ clock ∧
    w.heap[r]? = some (.mapIter (some b) since seen c0) ∧ (leftOf es seen).toList.map kvOf = rest
theorem RangeW.lt {w : World} {b r : Nat} {m rest : List Kv} (h : RangeW w b r m rest) : b < w.heap.size ∧ r < w.heap.size := by
  obtain ⟨es, c, s, seen, c0, h1, _, _, _, _, _, _, h2, _⟩ := h
  exact ⟨(Array.getElem?_eq_some_iff.1 h1).1, (Array.getElem?_eq_some_iff.1 h2).1⟩
theorem RangeW.ne {w : World} {b r : Nat} {m rest : List Kv} (h : RangeW w b r m rest) : b ≠ r := by
  obtain ⟨es, c, s, seen, c0, h1, _, _, _, _, _, _, h2, _⟩ := h
  rintro rfl
  rw [h1] at h2
  cases h2
theorem RangeW.kept {w w' : World} {row : Option Nat} {b r : Nat} {m rest : List Kv} (h : RangeW w b r m rest) (hg : w.grownBy w' row) (hne : some b ≠ row) (hnr : some r ≠ row) : RangeW w' b r m rest := by
  have hl := h.lt
  obtain ⟨es, c, s, seen, c0, h1, r1, r2, r3, r4, r5, r6, h2, r7⟩ := h
  exact ⟨es, c, s, seen, c0, (hg.block b hl.1 hne).trans h1, r1, r2, r3, r4, r5, r6, (hg.block r hl.2 hnr).trans h2, r7⟩
theorem RangeW.below {w w' : World} {b r n : Nat} {m rest : List Kv} (h : RangeW w b r m rest) (hb : Below n w w') (h1 : b < n) (h2 : r < n) : RangeW w' b r m rest := by
  obtain ⟨es, c, s, seen, c0, k1, r1, r2, r3, r4, r5, r6, k2, r7⟩ := h
  exact ⟨es, c, s, seen, c0, (hb.block b h1).trans k1, r1, r2, r3, r4, r5, r6, (hb.block r h2).trans k2, r7⟩
theorem RangeW.map {w : World} {b r : Nat} {m rest : List Kv} (h : RangeW w b r m rest) : MapW w b m := by
  obtain ⟨es, c, s, seen, c0, k1, r1, r2, r3, r4, r5, r6, k2, r7⟩ := h
  exact ⟨es, c, k1, r1, r2, fun e he => Nat.lt_of_lt_of_le (r3 e he) r6, r4⟩
theorem MapW.range {P : Program} {w : World} {b : Nat} {m : List Kv} (h : MapW w b m) {t k e : TypeId} (ht : P.underlying t = some (.map k e)) :
    ∃ w', (Instr.range t (.map (some b))).run P w = .ok (.pointer (some ⟨w.heap.size, 0, none⟩)) w' ∧ RangeW w' b w.heap.size m m ∧ w.grownBy w' none ∧ w'.heap.size = w.heap.size + 1 := by
  have hlt := h.lt
  obtain ⟨es, clock, hb, hm, hk, hbn, hnd⟩ := h
  refine ⟨_, run_range_map w t k e b es clock ht hb, ⟨es, clock, clock, #[], clock, ((MapKept.heap_alloc w _).2 b hlt).trans hb, hm, hk, hbn, hnd, Nat.le_refl _, Nat.le_refl _, (MapKept.heap_alloc w _).1, ?_⟩, World.grownBy_alloc w _ none, by simp⟩
  rw [← hm]
  congr 1
  unfold leftOf
  simp
theorem RangeW.next {P : Program} {w : World} {b r : Nat} {m rest : List Kv} (h : RangeW w b r m rest) (ty : TypeId) :
    (rest = [] ∧ (Instr.next (.pointer (some ⟨r, 0, none⟩)) false ty).run P w = .ok (.tuple #[.bool false]) w) ∨
    ∃ p rest' w', rest.Perm (p :: rest') ∧ (Instr.next (.pointer (some ⟨r, 0, none⟩)) false ty).run P w = .ok (.tuple #[.bool true, .string p.1, p.2]) w' ∧ RangeW w' b r m rest' ∧ w.grownBy w' (some r) ∧ w'.heap.size = w.heap.size ∧
      (Instr.entry (.pointer (some ⟨r, 0, none⟩))).run P w' = .ok (.tuple #[.string p.1, p.2]) w' := by
  have hne := h.ne
  have hlt := h.lt
  obtain ⟨es, clock, since, seen, c0, hb, hm, hk, hbn, hnd, hs1, hs2, hr, hl⟩ := h
  rcases run_next_at (P := P) w ty r b since c0 seen es clock hr hb hbn hs1 with ⟨h0, hrun⟩ | ⟨e, he, w1, hw1, hrun⟩
  · refine .inl ⟨?_, hrun⟩
    rw [← hl]
    have : (leftOf es seen).toList = [] := by rw [← List.length_eq_zero_iff]; simpa using h0
    rw [this]
    rfl
  · right
    have hes : e ∈ es.toList := by
      unfold leftOf at he
      simp at he
      simpa using he.1
    obtain ⟨s, hse⟩ := hk e hes
    have hb1 : w1.heap[b]? = some (.map es clock) := by rcases hw1 with rfl | rfl <;> exact hb
    have hr1 : w1.heap[r]? = some (.mapIter (some b) since seen c0) := by rcases hw1 with rfl | rfl <;> exact hr
    have hsz1 : w1.heap.size = w.heap.size := by rcases hw1 with rfl | rfl <;> rfl
    have hr2 : (ChangeMaps.setBlock w1 r (.mapIter (some b) since (seen.push e.born) clock)).heap[r]? = some (.mapIter (some b) since (seen.push e.born) clock) := setBlock_same (by rw [hsz1]; exact hlt.2) _
    have hb2 : (ChangeMaps.setBlock w1 r (.mapIter (some b) since (seen.push e.born) clock)).heap[b]? = some (.map es clock) := (setBlock_other _ hne).trans hb1
    refine ⟨(s, e.val), ((leftOf es seen).toList.filter (fun x => x.born != e.born)).map kvOf, _, ?_, ?_, ⟨es, clock, since, seen.push e.born, clock, hb2, hm, hk, hbn, hnd, hs2, hs2, hr2, ?_⟩, ?_, ?_, ?_⟩
    · rw [← hl]
      have hp : (leftOf es seen).toList.Perm (e :: (leftOf es seen).toList.filter (fun x => x.born != e.born)) := by
        have hn : ((leftOf es seen).toList.map (·.born)).Nodup := by
          unfold leftOf
          rw [Array.toList_filter]
          exact hnd.sublist (List.Sublist.map _ List.filter_sublist)
        generalize (leftOf es seen).toList = L at he hn
        clear hl
        induction L with
        | nil => cases he
        | cons x L ih =>
          simp only [List.map_cons, List.nodup_cons] at hn
          rcases List.mem_cons.1 he with rfl | he'
          · have hL : L.filter (fun x => x.born != e.born) = L := by
              rw [List.filter_eq_self]
              intro y hy
              have : y.born ≠ e.born := fun q => hn.1 (by rw [← q]; exact List.mem_map_of_mem hy)
              simpa using this
            rw [List.filter_cons]
            simp [hL]
          · have hx : x.born ≠ e.born := fun q => hn.1 (by rw [q]; exact List.mem_map_of_mem he')
            rw [List.filter_cons]
            simp only [bne_iff_ne, ne_eq, hx, not_false_eq_true, if_true]
            exact (List.Perm.cons x (ih he' hn.2)).trans (List.Perm.swap _ _ _)
      have := hp.map kvOf
      rw [List.map_cons] at this
      have ek : kvOf e = (s, e.val) := by simp [kvOf, hse, strK]
      rwa [ek] at this
    · rw [hrun, hse]
    · unfold leftOf
      rw [Array.toList_filter, Array.toList_filter, List.filter_filter]
      congr 1
      apply List.filter_congr
      intro x _
      by_cases q : x.born = e.born <;> simp [q, bne]
    · refine ⟨?_, ?_, ?_, ?_, ?_⟩
      · rcases hw1 with rfl | rfl <;> rfl
      · rcases hw1 with rfl | rfl <;> rfl
      · rcases hw1 with rfl | rfl <;> rfl
      · rw [show (ChangeMaps.setBlock w1 r (.mapIter (some b) since (seen.push e.born) clock)).heap.size = w1.heap.size by simp [ChangeMaps.setBlock], hsz1]; exact Nat.le_refl _
      · intro i hi hir
        rw [setBlock_other _ (fun q => hir (by rw [q]))]
        rcases hw1 with rfl | rfl <;> rfl
    · rw [show (ChangeMaps.setBlock w1 r (.mapIter (some b) since (seen.push e.born) clock)).heap.size = w1.heap.size by simp [ChangeMaps.setBlock], hsz1]
    · rw [run_entry_at _ r b since seen es clock e hr2 hb2 hes hnd, hse]
end

section
open Go Go.RowKit Go.Shelf Go.Sort

theorem mem_compact {α : Type} [Inhabited α] [DecidableEq α] (zs : List α) (x : α) : x ∈ Lib.compact zs ↔ x ∈ zs := by
  unfold Lib.compact
  have key : ∀ m, m ≤ zs.length → (x ∈ Lib.compactUpTo zs.toArray m ↔ x ∈ zs.take m) := by
    intro m
    induction m with
    | zero => intro _; simp [Lib.compactUpTo]
    | succ m ih =>
      intro hm
      have hm' : m < zs.length := by omega
      rw [Lib.compactUpTo_succ, List.mem_append, ih (by omega), List.take_succ_eq_append_getElem hm', List.mem_append]
      have eg : zs.toArray[m]! = zs[m] := by simp [hm']
      by_cases hk : Lib.keeps zs.toArray m = true
      · rw [if_pos hk, eg]
      · rw [if_neg hk]
        simp only [List.not_mem_nil, or_false, List.mem_singleton]
        constructor
        · exact Or.inl
        · rintro (h | rfl)
          · exact h
          · have hm0 : 0 < m := by
              rcases Nat.eq_zero_or_pos m with e | e
              · subst e; exact absurd (Lib.keeps_lt_one _ 0 (by omega)) hk
              · exact e
            have he : zs.toArray[m]! = zs.toArray[m - 1]! := by
              apply Classical.byContradiction
              intro q
              exact hk (Lib.keeps_pos q)
            rw [eg] at he
            have hm1 : m - 1 < zs.length := by omega
            have eg1 : zs.toArray[m - 1]! = zs[m - 1] := by simp [hm1]
            rw [he, eg1, List.mem_take_iff_getElem]
            exact ⟨m - 1, by omega, rfl⟩
  have := key zs.length (Nat.le_refl _)
  rwa [List.take_length] at this
theorem le_trans_b (a b c : List UInt8) : decide (a ≤ b) = true → decide (b ≤ c) = true → decide (a ≤ c) = true := by
  simp only [decide_eq_true_eq]
  exact List.le_trans
theorem le_total_b (a b : List UInt8) : (decide (a ≤ b) || decide (b ≤ a)) = true := by
  simp only [Bool.or_eq_true, decide_eq_true_eq]
  exact List.le_total a b
theorem sortB_sorted (l : List ByteArray) : (sortB l).Pairwise fun a b => a ≤ b := by
  have := List.pairwise_mergeSort (le := fun x y : List UInt8 => decide (x ≤ y)) le_trans_b le_total_b (bytesL l)
  exact this.imp (by simp)
/-- Strictly increasing. -/
def IncB (l : List (List UInt8)) : Prop := l.Pairwise fun a b => a < b
theorem compact_inc (zs : List (List UInt8)) (h : zs.Pairwise fun a b => a ≤ b) : IncB (Lib.compact zs) := by
  unfold Lib.compact
  have key : ∀ m, m ≤ zs.length → IncB (Lib.compactUpTo zs.toArray m) ∧ ∀ x ∈ Lib.compactUpTo zs.toArray m, ∀ y, zs[m - 1]? = some y → x ≤ y := by
    intro m
    induction m with
    | zero => intro _; simp [Lib.compactUpTo, IncB]
    | succ m ih =>
      intro hm
      have hm' : m < zs.length := by omega
      obtain ⟨i1, i2⟩ := ih (by omega)
      have eg : zs.toArray[m]! = zs[m] := by simp [hm']
      have up : ∀ x ∈ Lib.compactUpTo zs.toArray m, x ≤ zs[m] := by
        intro x hx
        rcases Nat.eq_zero_or_pos m with e | e
        · subst e; simp [Lib.compactUpTo] at hx
        · have hm1 : m - 1 < zs.length := by omega
          have h1 := i2 x hx zs[m - 1] (List.getElem?_eq_getElem hm1)
          have h2 := (List.pairwise_iff_getElem.1 h) (m - 1) m hm1 hm' (by omega)
          exact List.le_trans h1 h2
      rw [Lib.compactUpTo_succ]
      by_cases hk : Lib.keeps zs.toArray m = true
      · rw [if_pos hk, eg]
        refine ⟨?_, ?_⟩
        · unfold IncB
          rw [List.pairwise_append]
          refine ⟨i1, by simp, fun x hx y hy => ?_⟩
          rw [List.mem_singleton] at hy
          subst hy
          have hle := up x hx
          rcases Nat.eq_zero_or_pos m with e | e
          · subst e; simp [Lib.compactUpTo] at hx
          · have hm1 : m - 1 < zs.length := by omega
            have h1 := i2 x hx zs[m - 1] (List.getElem?_eq_getElem hm1)
            have h2 := (List.pairwise_iff_getElem.1 h) (m - 1) m hm1 hm' (by omega)
            have hne : zs[m - 1] ≠ zs[m] := by
              intro q
              unfold Lib.keeps at hk
              have eg1 : zs.toArray[m - 1]! = zs[m - 1] := by simp [hm1]
              rw [eg, eg1, q] at hk
              simp at hk
              omega
            rcases List.le_iff_lt_or_eq.1 h2 with q | q
            · exact List.lt_of_le_of_lt h1 q
            · exact absurd q hne
        · intro x hx y hy
          rw [Nat.add_sub_cancel, List.getElem?_eq_getElem hm'] at hy
          cases hy
          rcases List.mem_append.1 hx with q | q
          · exact up x q
          · rw [List.mem_singleton.1 q]; exact List.le_refl _
      · rw [if_neg hk, List.append_nil]
        refine ⟨i1, fun x hx y hy => ?_⟩
        rw [Nat.add_sub_cancel, List.getElem?_eq_getElem hm'] at hy
        cases hy
        exact up x hx
  exact (key zs.length (Nat.le_refl _)).1
/-- Strictly increasing names. -/
def IncS (l : List ByteArray) : Prop := IncB (bytesL l)
theorem mem_bytesL {l : List ByteArray} {s : ByteArray} : s.data.toList ∈ bytesL l ↔ s ∈ l := by
  unfold bytesL
  rw [List.mem_map]
  constructor
  · rintro ⟨t, ht, e⟩
    have : t = s := by
      cases t with | mk t => cases s with | mk s =>
      simp only at e
      congr 1
      exact Array.toList_inj.1 e
    rwa [← this]
  · exact fun h => ⟨s, h, rfl⟩
theorem setL_inc (l : List ByteArray) : IncS (setL l) := by
  unfold IncS setL
  rw [bytes_of]
  exact compact_inc _ (sortB_sorted l)
theorem mem_setL {l : List ByteArray} {s : ByteArray} : s ∈ setL l ↔ s ∈ l := by
  rw [← mem_bytesL, setL, bytes_of, mem_compact, sortB, List.mem_mergeSort, mem_bytesL]
theorem incB_ext : ∀ {l m : List (List UInt8)}, IncB l → IncB m → (∀ x, x ∈ l ↔ x ∈ m) → l = m := by
  intro l
  induction l with
  | nil =>
    intro m _ _ h
    cases m with
    | nil => rfl
    | cons y m => exact absurd ((h y).2 (by simp)) (by simp)
  | cons x l ih =>
    intro m hl hm h
    cases m with
    | nil => exact absurd ((h x).1 (by simp)) (by simp)
    | cons y m =>
      unfold IncB at hl hm
      rw [List.pairwise_cons] at hl hm
      have exy : x = y := by
        rcases List.mem_cons.1 ((h x).1 (by simp)) with q | q
        · exact q
        · rcases List.mem_cons.1 ((h y).2 (by simp)) with q2 | q2
          · exact q2.symm
          · exact absurd (List.lt_trans (hm.1 x q) (hl.1 y q2)) (List.lt_irrefl _)
      subst exy
      congr 1
      refine ih hl.2 hm.2 (fun z => ?_)
      constructor
      · intro hz
        rcases List.mem_cons.1 ((h z).1 (by simp [hz])) with q | q
        · subst q; exact absurd (hl.1 z hz) (List.lt_irrefl _)
        · exact q
      · intro hz
        rcases List.mem_cons.1 ((h z).2 (by simp [hz])) with q | q
        · subst q; exact absurd (hm.1 z hz) (List.lt_irrefl _)
        · exact q
theorem incS_ext {l m : List ByteArray} (hl : IncS l) (hm : IncS m) (h : ∀ x, x ∈ l ↔ x ∈ m) : l = m := by
  have := incB_ext hl hm (fun x => by
    have ex : x = (⟨x.toArray⟩ : ByteArray).data.toList := by simp
    rw [ex, mem_bytesL, mem_bytesL]
    exact h _)
  rw [← of_bytes l, this, of_bytes]
theorem incS_nodup {l : List ByteArray} (h : IncS l) : l.Nodup := by
  unfold IncS IncB bytesL at h
  rw [List.pairwise_map] at h
  refine h.imp ?_
  intro a b hab e
  subst e
  exact List.lt_irrefl _ hab
theorem setL_length_le (l : List ByteArray) : (setL l).length ≤ l.length := by
  have := Lib.compact_length_le (sortB l)
  rw [sortB_length] at this
  simpa [setL, ofB] using this
end

section
open Go Go.RowKit Go.Shelf

abbrev Sm := List (ByteArray × Nat)
def hasN (m : Sm) (s : ByteArray) : Bool := m.any fun p => decide (s = p.1)
theorem hasN_iff {m : Sm} {s : ByteArray} : hasN m s = true ↔ s ∈ m.map (·.1) := by
  unfold hasN
  rw [List.any_eq_true, List.mem_map]
  constructor
  · rintro ⟨p, hp, e⟩; exact ⟨p, hp, (of_decide_eq_true e).symm⟩
  · rintro ⟨p, hp, e⟩; exact ⟨p, hp, decide_eq_true e.symm⟩
def kvN (m : Sm) : List Kv := m.map fun p => (p.1, .int .i64 p.2)
theorem kvN_append (m m' : Sm) : kvN (m ++ m') = kvN m ++ kvN m' := by simp [kvN]
/-- The number that a map of steps has for a string. -/
def stepOf (m : Sm) (s : ByteArray) : Option Nat := (m.find? fun p => decide (s = p.1)).map (·.2)
theorem getM_kvN (m : Sm) (s : ByteArray) : getM (kvN m) s = (stepOf m s).map fun n => .int .i64 (n : Int) := by
  unfold getM kvN stepOf
  rw [List.find?_map, Option.map_map, Option.map_map]
  rfl
theorem stepOf_has {m : Sm} {s : ByteArray} : hasN m s = (stepOf m s).isSome := by
  unfold hasN stepOf
  rw [Option.isSome_map, Bool.eq_iff_iff, List.any_eq_true, List.find?_isSome]
theorem getM_no {m : Sm} {s : ByteArray} (h : hasN m s = false) : getM (kvN m) s = none := by
  rw [getM_kvN]
  rw [stepOf_has] at h
  cases hq : stepOf m s with
  | none => rfl
  | some n => rw [hq] at h; cases h
theorem getM_yes {m : Sm} {s : ByteArray} (h : hasN m s = true) : ∃ n, stepOf m s = some n ∧ getM (kvN m) s = some (.int .i64 (n : Int)) := by
  rw [getM_kvN]
  rw [stepOf_has] at h
  cases hq : stepOf m s with
  | none => rw [hq] at h; cases h
  | some n => exact ⟨n, rfl, rfl⟩
/-- One level: all of a list who are new get k steps; their parents come next. -/
def abS (fs : List Fa) (k : Nat) : List ByteArray → Sm → List ByteArray → Sm × List ByteArray
  | [], m, nx => (m, nx)
  | s :: l, m, nx => if hasN m s then abS fs k l m nx else abS fs k l (m ++ [(s, k)]) (nx ++ parentsF fs s)
theorem abS_snoc (fs : List Fa) (k : Nat) (l : List ByteArray) (s : ByteArray) : ∀ (m : Sm) (nx : List ByteArray), abS fs k (l ++ [s]) m nx = if hasN (abS fs k l m nx).1 s then abS fs k l m nx else ((abS fs k l m nx).1 ++ [(s, k)], (abS fs k l m nx).2 ++ parentsF fs s) := by
  induction l with
  | nil => intro m nx; rfl
  | cons x l ih =>
    intro m nx
    simp only [List.cons_append, abS]
    split
    · exact ih _ _
    · exact ih _ _
/-- After so many levels: who has steps, and who comes next. -/
def abI (fs : List Fa) (frm : List ByteArray) : Nat → Sm × List ByteArray
  | 0 => ([], frm)
  | i + 1 => abS fs i (abI fs frm i).2 (abI fs frm i).1 []
theorem abI_stay {fs : List Fa} {frm : List ByteArray} {i : Nat} (h : (abI fs frm i).2 = []) : ∀ j, abI fs frm (i + j) = abI fs frm i := by
  intro j
  induction j with
  | zero => rfl
  | succ j ih =>
    show abS fs (i + j) (abI fs frm (i + j)).2 (abI fs frm (i + j)).1 [] = _
    rw [ih, h]
    show ((abI fs frm i).1, []) = _
    rw [← h]
theorem abI_uniq {fs : List Fa} {frm : List ByteArray} {i j : Nat} (hi : (abI fs frm i).2 = []) (hj : (abI fs frm j).2 = []) : (abI fs frm i).1 = (abI fs frm j).1 := by
  rcases Nat.le_total i j with h | h
  · obtain ⟨d, rfl⟩ := Nat.le.dest h
    rw [abI_stay hi d]
  · obtain ⟨d, rfl⟩ := Nat.le.dest h
    rw [abI_stay hj d]
theorem parentsL_mem {ps : List ByteArray} {fs : List Fa} (h : AllAbout ps fs) {s t : ByteArray} (ht : t ∈ parentsL fs s) : t ∈ ps := by
  unfold parentsL at ht
  obtain ⟨f, hf, rfl⟩ := List.mem_map.1 ht
  obtain ⟨hf1, hf2⟩ := List.mem_filter.1 hf
  simp only [Bool.and_eq_true, decide_eq_true_eq] at hf2
  obtain ⟨_, _, h3, _⟩ := aboutB_iff.1 (h f hf1)
  exact (h3 (by omega)).2.1
theorem parentsF_mem {ps : List ByteArray} {fs : List Fa} (h : AllAbout ps fs) {s t : ByteArray} (ht : t ∈ parentsF fs s) : t ∈ ps := parentsL_mem h (mem_setL.1 ht)
theorem parentsF_length (fs : List Fa) (s : ByteArray) : (parentsF fs s).length ≤ fs.length := by
  have a := setL_length_le (parentsL fs s)
  have b := parentsL_length fs s fs.length
  rw [List.take_length] at b
  unfold parentsF
  omega
/-- What holds of the maps of steps. -/
structure AbG (ps : List ByteArray) (L : Nat) (m : Sm) (nx : List ByteArray) : Prop where
  once : (m.map (·.1)).Nodup
  who : ∀ p ∈ m, p.1 ∈ ps
  next : ∀ s ∈ nx, s ∈ ps
  few : nx.length ≤ L * m.length
theorem nodup_le {l ps : List ByteArray} (hn : l.Nodup) (h : ∀ s ∈ l, s ∈ ps) : l.length ≤ ps.length := by
  have : l ⊆ ps := h
  exact hn.length_le_of_subset this
theorem AbG.length {ps : List ByteArray} {L : Nat} {m : Sm} {nx : List ByteArray} (h : AbG ps L m nx) : m.length ≤ ps.length := by
  have := nodup_le h.once (fun s hs => by obtain ⟨p, hp, rfl⟩ := List.mem_map.1 hs; exact h.who p hp)
  simpa using this
theorem abS_good {ps : List ByteArray} {fs : List Fa} (hf : AllAbout ps fs) (k : Nat) : ∀ (l : List ByteArray) (m : Sm) (nx : List ByteArray), (∀ s ∈ l, s ∈ ps) → AbG ps fs.length m nx →
    AbG ps fs.length (abS fs k l m nx).1 (abS fs k l m nx).2 ∧ m.length ≤ (abS fs k l m nx).1.length ∧ (nx = [] → (abS fs k l m nx).2 ≠ [] → m.length < (abS fs k l m nx).1.length) := by
  intro l
  induction l with
  | nil => intro m nx _ h; exact ⟨h, Nat.le_refl _, fun h1 h2 => absurd h1 h2⟩
  | cons s l ih =>
    intro m nx hl h
    simp only [abS]
    by_cases hs : hasN m s = true
    · rw [if_pos hs]
      exact ih m nx (fun t ht => hl t (by simp [ht])) h
    · rw [if_neg hs]
      have hne : s ∉ m.map (·.1) := fun q => hs (hasN_iff.2 q)
      have pl := parentsF_length fs s
      have hg : AbG ps fs.length (m ++ [(s, k)]) (nx ++ parentsF fs s) := by
        refine ⟨?_, ?_, ?_, ?_⟩
        · rw [List.map_append, List.nodup_append]
          refine ⟨h.once, by simp, fun x hx y hy => ?_⟩
          simp only [List.map_cons, List.map_nil, List.mem_singleton] at hy
          subst hy
          exact fun e => hne (e ▸ hx)
        · intro p hp
          rcases List.mem_append.1 hp with q | q
          · exact h.who p q
          · rw [List.mem_singleton.1 q]; exact hl s (by simp)
        · intro t ht
          rcases List.mem_append.1 ht with q | q
          · exact h.next t q
          · exact parentsF_mem hf q
        · have := h.few
          rw [List.length_append, List.length_append, List.length_singleton, Nat.mul_add]
          omega
      obtain ⟨i1, i2, i3⟩ := ih _ _ (fun t ht => hl t (by simp [ht])) hg
      rw [List.length_append, List.length_singleton] at i2
      exact ⟨i1, by omega, fun _ _ => by omega⟩
theorem AbG.start {ps : List ByteArray} {L : Nat} {m : Sm} {nx : List ByteArray} (h : AbG ps L m nx) : AbG ps L m [] := ⟨h.once, h.who, by simp, by simp⟩
/-- The levels. -/
structure AbL (ps : List ByteArray) (fs : List Fa) (i : Nat) (r : Sm × List ByteArray) : Prop where
  once : (r.1.map (·.1)).Nodup
  who : ∀ p ∈ r.1, p.1 ∈ ps
  next : ∀ s ∈ r.2, s ∈ ps
  many : r.2 ≠ [] → i ≤ r.1.length
theorem abI_good {ps : List ByteArray} {fs : List Fa} (hf : AllAbout ps fs) {frm : List ByteArray} (hfrm : ∀ s ∈ frm, s ∈ ps) : ∀ i, AbL ps fs i (abI fs frm i) := by
  intro i
  induction i with
  | zero => exact ⟨by simp [abI], by simp [abI], hfrm, fun _ => Nat.zero_le _⟩
  | succ i ih =>
    obtain ⟨h1, h2, h3⟩ := abS_good hf i (abI fs frm i).2 (abI fs frm i).1 [] ih.next ⟨ih.once, ih.who, by simp, by simp⟩
    refine ⟨h1.once, h1.who, h1.next, fun hne => ?_⟩
    have := h3 rfl hne
    by_cases q : (abI fs frm i).2 = []
    · exfalso
      apply hne
      show (abS fs i (abI fs frm i).2 (abI fs frm i).1 []).2 = []
      rw [q]
      rfl
    · have := ih.many q
      show i + 1 ≤ (abS fs i (abI fs frm i).2 (abI fs frm i).1 []).1.length
      omega
theorem AbL.length {ps : List ByteArray} {fs : List Fa} {i : Nat} {r : Sm × List ByteArray} (h : AbL ps fs i r) : r.1.length ≤ ps.length := by
  have := nodup_le h.once (fun s hs => by obtain ⟨p, hp, rfl⟩ := List.mem_map.1 hs; exact h.who p hp)
  simpa using this
end

section
open Go Go.RowKit Go.Shelf
attribute [local go_sem] Oper.semAt_some

/-- All cells of one world are those of another one, too. -/
def KC (a b : World) : Prop := a.heap.size ≤ b.heap.size ∧ ∀ p u, a.cell? p = some u → b.cell? p = some u
theorem KC.refl (a : World) : KC a a := ⟨Nat.le_refl _, fun _ _ h => h⟩
theorem KC.trans {a b c : World} (h : KC a b) (k : KC b c) : KC a c := ⟨Nat.le_trans h.1 k.1, fun p u hp => k.2 p u (h.2 p u hp)⟩
theorem KC.below {a b c : World} (h : KC a b) (k : Below b.heap.size b c) : KC a c := ⟨Nat.le_trans h.1 k.size, fun p u hp => below_cell k (h.2 p u hp)⟩
theorem KC.own {a b c : World} {base : Nat} {e : TypeId} {size n : Nat} {v : Value} {xs : List Value} (h : KC a b) (hg : b.grownBy c v.ownBlock) (ho : b.ownsRow base e size v n xs) (hb : a.heap.size ≤ base) : KC a c := by
  refine ⟨Nat.le_trans h.1 hg.size, fun p u hp => hg.cell (h.2 p u hp) (fun e => ?_)⟩
  have h1 := block_lt_of_cell hp
  have h2 := (ho.lt _ e.symm).1
  omega
theorem KC.map {a b c : World} {bm : Nat} {m : List Kv} (h : KC a b) (hg : b.grownBy c (some bm)) (hm : MapW b bm m) : KC a c := by
  refine ⟨Nat.le_trans h.1 hg.size, fun p u hp => hg.cell (h.2 p u hp) (fun e => ?_)⟩
  cases e
  have := h.2 p u hp
  obtain ⟨es, k, hh, _⟩ := hm
  simp [World.cell?, hh] at this
theorem Sl.kc {a b : World} {s : Nat} {v : Value} {xs : List Value} (h : Sl a s v xs) (k : KC a b) : Sl b s v xs := h.keep k.2
theorem abS_take {fs : List Fa} {i : Nat} {l : List ByteArray} {j : Nat} {s : ByteArray} (h : l[j]? = some s) (m : Sm) : abS fs i (l.take (j + 1)) m [] = if hasN (abS fs i (l.take j) m []).1 s then abS fs i (l.take j) m [] else ((abS fs i (l.take j) m []).1 ++ [(s, i)], (abS fs i (l.take j) m []).2 ++ parentsF fs s) := by
  rw [List.take_add_one, h]
  exact abS_snoc fs i (l.take j) s m []
theorem own_ne_map {w : World} {base : Nat} {e : TypeId} {size n : Nat} {v : Value} {xs : List Value} (ho : w.ownsRow base e size v n xs) {b : Nat} (hb : b < base) : some b ≠ v.ownBlock := fun q => by
  have := (ho.lt _ q.symm).1
  omega

set_option maxRecDepth 100000 in
set_option maxHeartbeats 4000000 in
theorem above_any (A : Option Addr) (n c : Nat) (F : Option Addr) (m d : Nat) (ps : List ByteArray) (fs : List Fa) (v : Value) (frm : List ByteArray) (w : World) (h : NetC w A n c F m d ps fs) (hf : AllAbout ps fs) (hp : ps.length ≤ 24) (hfew : fs.length ≤ 48) (hv : Sl w 1 v (namesV frm)) (hfrm : ∀ s ∈ frm, s ∈ ps) :
    Calls Tryz.prog 84 #[.agg #[.slice A n c, .slice F m d], v] w fun e w' => ∃ i, i ≤ 25 ∧ (abI fs frm i).2 = [] ∧ e = .returned (.map (some (w.heap.size + 1))) ∧ MapW w' (w.heap.size + 1) (kvN (abI fs frm i).1) ∧ Below w.heap.size w w' := by
  have hmm := @run_makeMap Tryz.prog
  have HN := Lib.hid h
  have HG := Lib.hid (abI_good hf hfrm)
  have HGs := Lib.hid (fun i => abS_good hf i)
  have HPa := Lib.hid (fun s w' h' => parents_any A n c F m d ps fs s w' h' hfew)
  have HPl := Lib.hid (fun s => parentsF_length fs s)
  have HFew := Lib.hid hfew
  obtain ⟨V, k0, C, rfl, hv⟩ := hv.shape
  have hb0 := (below_alloc' w (.cells #[.slice A n c, .slice F m d] 25)).alloc (by simp) (.map #[] 0)
  have y0 := (Cel.new w 25 #[.slice A n c, .slice F m d]).alloc (.map #[] 0)
  have m0 := MapW.new (w.alloc (.cells #[.slice A n c, .slice F m d] 25))
  rw [World.size_alloc] at m0
  have hsz : ((w.alloc (.cells #[.slice A n c, .slice F m d] 25)).alloc (.map #[] 0)).heap.size = w.heap.size + 2 := by simp
  have HV := Lib.hid (hv.below hb0)
  have HB := Lib.hid hb0
  have HY := Lib.hid y0
  have HM := Lib.hid m0
  have HZ := Lib.hid hsz
  clear h hf hv hfrm hfew hb0 y0 m0 hsz
  go_enter Tryz.func84, Tryz.ntmps84
  go_wp2
  generalize (w.alloc (.cells #[.slice A n c, .slice F m d] 25)).alloc (.map #[] 0) = W at *
  clear hmm
  go_loopw [1, 6] (fun v1 t6 wr => ∃ i : Nat, t6 = .int .i64 i ∧ i ≤ 25 ∧ Hid (Sl wr 1 v1 (namesV (abI fs frm i).2)) ∧ Hid (MapW wr (w.heap.size + 1) (kvN (abI fs frm i).1)) ∧ Hid (Cel wr w.heap.size 25 #[.slice A n c, .slice F m d]) ∧ Hid (Below w.heap.size w wr) ∧ Hid (w.heap.size + 2 ≤ wr.heap.size)) (fun _ t6 _ => 30 - (intOf t6).toNat)
  case atStart => exact ⟨0, rfl, by omega, HV.out, HM.out, HY.out, HB.out, by show _ ≤ _; rw [HZ.out]; exact Nat.le_refl _⟩
  case round =>
    clear HV HB HY HM
    obtain ⟨i, rfl, hi, HV, HM, HY, HB, HZ2⟩ := hrel
    obtain ⟨W1, hW1⟩ : ∃ W1, W1 = wr := ⟨_, rfl⟩
    subst hW1
    have HGi := Lib.hid (HG.out i)
    have HI := Lib.hid (show abI fs frm (i + 1) = abS fs i (abI fs frm i).2 (abI fs frm i).1 [] from rfl)
    have HQ := Lib.hid (show (abI fs frm i).2 = [] → ∃ i, i ≤ 25 ∧ (abI fs frm i).2 = [] ∧ MapW W1 (w.heap.size + 1) (kvN (abI fs frm i).1) from fun q => ⟨i, hi, q, HM.out⟩)
    obtain ⟨A1, n1, c1, e1, hl1, hcap1, hcm1, hcl1⟩ := HV.out.open2 (by decide)
    subst e1
    rw [namesV_length] at hl1
    generalize abI fs frm i = r at *
    obtain ⟨sm, l⟩ := r
    simp only at HV HM HGi HI HQ hl1 hcl1
    obtain rfl : n1 = l.length := by omega
    have HCl := Lib.hid hcl1
    clear hcl1 hl1
    by_cases hl0 : l.length = 0
    · have HE := Lib.hid (List.length_eq_zero_iff.1 hl0)
      have hlt : ¬ 0 < l.length := by omega
      have HH := Lib.hid hl0
      clear hl0
      go_wp2
      go_ret
      obtain ⟨j, j0, j1, j2⟩ := HQ.out HE.out
      exact ⟨j, j0, j1, rfl, j2, HB.out⟩
    · have hlt : 0 < l.length := by omega
      have hi24 : i ≤ 24 := by
        have a := HGi.out.many (fun q => hl0 (by show l.length = 0; rw [show l = [] from q]; rfl))
        have b := HGi.out.length
        simp only at a b
        omega
      clear hl0
      go_wp2
      have HK0 := Lib.hid (KC.refl W1)
      go_loopw [7, 20] (fun v7 t20 wi => ∃ j : Nat, t20 = .int .i64 j ∧ j ≤ l.length ∧ Hid (wi.ownsRow W1.heap.size 9 1 v7 (abS fs i (l.take j) sm []).2.length (namesV (abS fs i (l.take j) sm []).2)) ∧ Hid (MapW wi (w.heap.size + 1) (kvN (abS fs i (l.take j) sm []).1)) ∧ Hid (Cel wi w.heap.size 25 #[.slice A n c, .slice F m d]) ∧ Hid (Below w.heap.size w wi) ∧ Hid (KC W1 wi)) (fun _ t20 _ => l.length - (intOf t20).toNat)
      case atStart => exact ⟨0, rfl, by omega, World.ownsRow_nil _ _ _ _, HM.out, HY.out, HB.out, HK0.out⟩
      case round =>
        clear HM HY HB HK0
        obtain ⟨j, rfl, hj, HO, HM, HY, HB, HK⟩ := hrel
        by_cases hjl : j < l.length
        · have hji : (j : Int) < (l.length : Int) := by omega
          obtain ⟨b, o, rfl, hb, hce⟩ := HCl.out (by omega)
          have hget : l[j]? = some l[j] := List.getElem?_eq_getElem hjl
          have d1 := HK.out.2 _ _ (hce j (.string l[j]) (by simp [namesV, hget]))
          have HT := Lib.hid (abS_take (fs := fs) (i := i) hget sm)
          have HGd := Lib.hid (HGs.out i (l.take j) sm [] (fun s hs => HGi.out.next s (List.mem_of_mem_take hs)) ⟨HGi.out.once, HGi.out.who, by simp, by simp⟩)
          clear hce hget
          generalize l[j] = s at *
          generalize abS fs i (l.take j) sm [] = r at *
          obtain ⟨sm', nx⟩ := r
          simp only at HO HM HT HGd
          have hlk := HM.out.s.lookup (P := Tryz.prog) (t := 104) Tryz.underlying104 Tryz.underlying9 (Tryz.zeroValue3 _) s true
          cases hh : hasN sm' s with
          | true =>
            obtain ⟨q, _, hq2⟩ := getM_yes hh
            rw [hq2] at hlk
            have HT2 := Lib.hid (HT.out.trans (by rw [hh, if_pos rfl]))
            clear hh hq2 HT
            go_wp2
            go_roundw
            case rel => exact ⟨j + 1, by go_num, by omega, by rw [HT2.out]; exact HO.out, by rw [HT2.out]; exact HM.out, HY.out, HB.out, HK.out⟩
            case measure => simp [intOf]; omega
          | false =>
            have hq2 := getM_no hh
            rw [hq2] at hlk
            have HT2 := Lib.hid (HT.out.trans (by rw [hh, if_neg (by decide)]))
            have hup := HM.out.s.update (P := Tryz.prog) (t := 104) Tryz.underlying104 Tryz.underlying9 s (.int .i64 (i : Int)) hq2
            have HP := Lib.hid (HM.out.put s (.int .i64 (i : Int)))
            have HG1 := Lib.hid (HM.out.s.put_grown s (.int .i64 (i : Int)))
            obtain ⟨w1, hw1⟩ : ∃ w1, mapPut wr (w.heap.size + 1) s (.int .i64 (i : Int)) = w1 := ⟨_, rfl⟩
            rw [hw1] at hup HP HG1
            have HY1 := Lib.hid (HY.out.kept HG1.out (by simp))
            have HB1 := Lib.hid (HB.out.grown HG1.out HB.out.size (fun k e => by cases e; omega))
            have HK1 := Lib.hid (HK.out.map HG1.out HM.out)
            have HO1 := Lib.hid (own_keep HO.out HG1.out (by
              have hz := HZ2.out
              have := own_ne_map HO.out (b := w.heap.size + 1) (by omega)
              intro g hg
              have := HO.out.lt g hg
              intro e
              cases e
              omega))
            clear hh hq2 HT hw1
            have z0 := HY1.out.cell 0 _ rfl
            have z1 := HY1.out.cell 1 _ rfl
            go_wp2_with fail
            refine (HPa.out s w1 (HN.out.below HB1.out)).mono ?_
            rintro e w2 ⟨v2, rfl, ho2, hb2⟩
            have HO2 := Lib.hid (own_below HO1.out hb2)
            have HY2 := Lib.hid (HY1.out.below HY1.out.lt hb2)
            have HM2 := Lib.hid (HP.out.below HP.out.lt hb2)
            have HB2 := Lib.hid (HB1.out.trans (hb2.mono HB1.out.size))
            have HK2 := Lib.hid (HK1.out.below hb2)
            have HS2 := Lib.hid (Sl.of_own ho2)
            have HW := Lib.hid (show W1.heap.size ≤ w2.heap.size from HK2.out.1)
            have HF := Lib.hid (show nx.length + (parentsF fs s).length ≤ 1048576 by
              have a := HGd.out.1.few
              have b := HGd.out.1.length
              have c := HPl.out s
              have := Nat.mul_le_mul_left fs.length b
              have := Nat.mul_le_mul (show fs.length ≤ 48 from HFew.out) hp
              have := HFew.out
              omega)
            clear ho2 hb2 z0 z1 hlk hup d1
            go_wp2_with (at_builtin; refine appStr _ _ rfl rfl rfl rfl HO2.out HS2.out (names_one _) (N := nx.length + (parentsF fs s).length) (by simp [namesV_length]) HF.out HW.out ?_; intro A3 c3 w3 hap)
            have hz := HZ2.out
            have HO3 := Lib.hid hap.own
            have HB3 := Lib.hid (below_of_own hap.grown HO2.out HB2.out (by omega))
            have HM3 := Lib.hid (HM2.out.kept hap.grown (own_ne_map HO2.out (by omega)))
            have HY3 := Lib.hid (HY2.out.kept hap.grown (own_ne_map HO2.out (by omega)))
            have HK3 := Lib.hid (HK2.out.own hap.grown HO2.out (Nat.le_refl _))
            clear hap hz
            go_wp2
            go_roundw
            case rel => exact ⟨j + 1, by go_num, by omega, by rw [HT2.out]; simp only [List.length_append, namesV_append]; exact HO3.out, by rw [HT2.out]; simp only [kvN_append]; exact HM3.out, HY3.out, HB3.out, HK3.out⟩
            case measure => simp [intOf]; omega
        · have hjn : j = l.length := by omega
          have HT := Lib.hid (show l.take j = l from List.take_of_length_le (by omega))
          rw [HT.out, ← HI.out] at HO HM
          clear hjn
          go_wp2
          refine ⟨⟨i + 1, by go_num, by omega, Sl.of_own HO.out, HM.out, HY.out, HB.out, Nat.le_trans HZ2.out HK.out.1⟩, by simp [intOf]; omega⟩
end

section
open Go Go.RowKit Go.Shelf
attribute [local go_sem] Oper.semAt_some

theorem abS_steps {fs : List Fa} {k : Nat} : ∀ (l : List ByteArray) (m : Sm) (nx : List ByteArray), (∀ p ∈ m, p.2 < k + 1) → ∀ p ∈ (abS fs k l m nx).1, p.2 < k + 1 := by
  intro l
  induction l with
  | nil => intro m nx h; exact h
  | cons s l ih =>
    intro m nx h
    simp only [abS]
    split
    · exact ih m nx h
    · refine ih _ _ (fun p hp => ?_)
      rcases List.mem_append.1 hp with q | q
      · exact h p q
      · rw [List.mem_singleton.1 q]; simp
theorem abI_steps (fs : List Fa) (frm : List ByteArray) : ∀ i, ∀ p ∈ (abI fs frm i).1, p.2 < i := by
  intro i
  induction i with
  | zero => intro p hp; simp [abI] at hp
  | succ i ih => exact abS_steps _ _ _ (fun p hp => by have := ih p hp; omega)
theorem kvN_perm {rest : Sm} {p : Kv} {r' : List Kv} (h : (kvN rest).Perm (p :: r')) : ∃ q rest2, p = (q.1, .int .i64 (q.2 : Int)) ∧ r' = kvN rest2 ∧ rest.Perm (q :: rest2) := by
  let g : Kv → ByteArray × Nat := fun z => (z.1, match z.2 with | .int _ n => n.toNat | _ => 0)
  have hg : ∀ m : Sm, (kvN m).map g = m := by
    intro m
    unfold kvN
    rw [List.map_map]
    conv => rhs; rw [← List.map_id m]
    apply List.map_congr_left
    intro z _
    simp [g]
  have him : ∀ z ∈ p :: r', z ∈ kvN rest := fun z hz => h.mem_iff.2 hz
  have hz : ∀ z ∈ kvN rest, ((g z).1, Value.int .i64 ((g z).2 : Int)) = z := by
    intro z hz
    obtain ⟨y, _, rfl⟩ := List.mem_map.1 hz
    simp [g]
  refine ⟨g p, r'.map g, (hz p (him p (by simp))).symm, ?_, ?_⟩
  · unfold kvN
    rw [List.map_map]
    conv => lhs; rw [← List.map_id r']
    apply List.map_congr_left
    intro z hz'
    exact (hz z (him z (by simp [hz']))).symm
  · have := h.map g
    rw [hg, List.map_cons] at this
    exact this
theorem RangeW.left_eq {w : World} {b r : Nat} {m rest : List Kv} (h : RangeW w b r m rest) : w.rangeLeft b r = rest.length := by
  obtain ⟨es, c, s, seen, c0, k1, r1, r2, r3, r4, r5, r6, k2, r7⟩ := h
  unfold World.rangeLeft
  rw [k1, k2, ← r7]
  simp
/-- The best pair of steps among those that have come. -/
def BestP (done mB : Sm) (fd : Bool) (up dn : Nat) : Prop :=
  (fd = false → up = 0 ∧ dn = 0 ∧ ∀ q ∈ done, stepOf mB q.1 = none) ∧
  (fd = true → (∃ q ∈ done, q.2 = up ∧ stepOf mB q.1 = some dn) ∧ ∀ q ∈ done, ∀ y, stepOf mB q.1 = some y → up + dn < q.2 + y ∨ (up + dn = q.2 + y ∧ up ≤ q.2))
theorem BestP.skip {done mB : Sm} {fd : Bool} {up dn : Nat} {q : ByteArray × Nat} (h : BestP done mB fd up dn) (hq : fd = false → stepOf mB q.1 = none) (hb : fd = true → ∀ y, stepOf mB q.1 = some y → up + dn < q.2 + y ∨ (up + dn = q.2 + y ∧ up ≤ q.2)) : BestP (done ++ [q]) mB fd up dn := by
  refine ⟨fun hf => ?_, fun hf => ?_⟩
  · obtain ⟨h1, h2, h3⟩ := h.1 hf
    refine ⟨h1, h2, fun z hz => ?_⟩
    rcases List.mem_append.1 hz with k | k
    · exact h3 z k
    · rw [List.mem_singleton.1 k]; exact hq hf
  · obtain ⟨⟨z, hz, h1, h2⟩, h3⟩ := h.2 hf
    refine ⟨⟨z, by simp [hz], h1, h2⟩, fun z hz => ?_⟩
    rcases List.mem_append.1 hz with k | k
    · exact h3 z k
    · rw [List.mem_singleton.1 k]; exact hb hf
theorem BestP.take {done mB : Sm} {fd : Bool} {up dn : Nat} {q : ByteArray × Nat} {y : Nat} (h : BestP done mB fd up dn) (hq : stepOf mB q.1 = some y) (hb : fd = true → q.2 + y < up + dn ∨ (q.2 + y = up + dn ∧ q.2 < up)) : BestP (done ++ [q]) mB true q.2 y := by
  refine ⟨fun hf => (by cases hf), fun _ => ⟨⟨q, by simp, rfl, hq⟩, fun z hz v hv => ?_⟩⟩
  rcases List.mem_append.1 hz with k | k
  · cases fd with
    | false =>
      have := (h.1 rfl).2.2 z k
      rw [this] at hv
      cases hv
    | true =>
      have a := (h.2 rfl).2 z k v hv
      have b := hb rfl
      omega
  · rw [List.mem_singleton.1 k] at hv ⊢
    rw [hq] at hv
    cases hv
    omega
theorem step_lt {m : Sm} {k : Nat} (h : ∀ p ∈ m, p.2 < k) {s : ByteArray} {y : Nat} (hy : stepOf m s = some y) : y < k := by
  unfold stepOf at hy
  obtain ⟨p, hp, rfl⟩ := Option.map_eq_some_iff.1 hy
  exact h p (List.mem_of_find?_eq_some hp)
/-- What Kin answers. -/
def KinP (fs : List Fa) (a b : ByteArray) (w : World) (e : Ending) (w' : World) : Prop :=
  Below w.heap.size w w' ∧ ∃ iA iB fd up dn, (abI fs [a] iA).2 = [] ∧ (abI fs [b] iB).2 = [] ∧ BestP (abI fs [a] iA).1 (abI fs [b] iB).1 fd up dn ∧ e = .returned (.tuple #[.int .i64 (up : Int), .int .i64 (dn : Int), .int .i64 (if fd then 0 else 4)])
set_option maxRecDepth 100000 in
set_option maxHeartbeats 1000000 in
theorem kin_bad (r : Int) (hr : r = 3 ∨ r = 100 ∨ r = 2) (A : Option Addr) (n c : Nat) (F : Option Addr) (m d : Nat) (ps : List ByteArray) (fs : List Fa) (a b : ByteArray) (w : World) (h : NetC w A n c F m d ps fs) (hs : Short ps) (hc : namedF ps fs [a, b] = r) :
    Calls Tryz.prog 35 #[.agg #[.slice A n c, .slice F m d], .string a, .string b] w fun e w' => e = .returned (.tuple #[.int .i64 0, .int .i64 0, .int .i64 r]) ∧ Below w.heap.size w w' := by
  have hb0 := (below_alloc' w (.cells #[.slice A n c, .slice F m d] 25)).alloc (by simp) (.cells #[.string a, .string b] 9)
  have hS1 := Sl.new (s := 1) (w.alloc (.cells #[.slice A n c, .slice F m d] 25)) 9 2 2 #[.string a, .string b] rfl (Nat.le_refl _) (by decide)
  rw [World.size_alloc] at hS1
  have HK := Lib.hid (checkNames_any A n c F m d ps fs (.slice (some ⟨w.heap.size + 1, 0, none⟩) 2 2) [a, b] _ (h.below hb0) hs hS1)
  rw [hc] at HK
  clear h hs hc hS1
  rcases hr with rfl | rfl | rfl
  all_goals
    go_enter Tryz.func35, Tryz.ntmps35
    go_wp2_with fail
    refine HK.out.mono ?_
    rintro e w1 ⟨rfl, hb1⟩
    have HB := Lib.hid (hb0.trans (hb1.mono hb0.size))
    clear hb0 hb1
    go_wp2
    go_ret3
    exact ⟨rfl, HB.out⟩
set_option maxRecDepth 100000 in
set_option maxHeartbeats 4000000 in
theorem kin_good (A : Option Addr) (n c : Nat) (F : Option Addr) (m d : Nat) (ps : List ByteArray) (fs : List Fa) (a b : ByteArray) (w : World) (h : NetC w A n c F m d ps fs) (hs : Short ps) (hc : namedF ps fs [a, b] = 0) (ha : a ∈ ps) (hb : b ∈ ps) (hf : AllAbout ps fs) (hp : ps.length ≤ 24) (hfew : fs.length ≤ 48) :
    Calls Tryz.prog 35 #[.agg #[.slice A n c, .slice F m d], .string a, .string b] w (KinP fs a b w) := by
  have hb0 := (below_alloc' w (.cells #[.slice A n c, .slice F m d] 25)).alloc (by simp) (.cells #[.string a, .string b] 9)
  have y0 := (Cel.new w 25 #[.slice A n c, .slice F m d]).alloc (.cells #[.string a, .string b] 9)
  have hS1 := Sl.new (s := 1) (w.alloc (.cells #[.slice A n c, .slice F m d] 25)) 9 2 2 #[.string a, .string b] rfl (Nat.le_refl _) (by decide)
  rw [World.size_alloc] at hS1
  have HK := Lib.hid (checkNames_any A n c F m d ps fs (.slice (some ⟨w.heap.size + 1, 0, none⟩) 2 2) [a, b] _ (h.below hb0) hs hS1)
  rw [hc] at HK
  have HN := Lib.hid h
  have HA := Lib.hid (fun v x w' h1 h2 h3 => above_any A n c F m d ps fs v [x] w' h1 hf hp hfew h2 h3)
  have Ha := Lib.hid ha
  have Hb := Lib.hid hb
  clear h hs hc hS1 hf ha hb
  go_enter Tryz.func35, Tryz.ntmps35
  go_wp2_with fail
  refine HK.out.mono ?_
  rintro e w1 ⟨rfl, hb1⟩
  have HB := Lib.hid (hb0.trans (hb1.mono hb0.size))
  have HY := Lib.hid (y0.below y0.lt hb1)
  have z0 := HY.out.cell 0 _ rfl
  have z1 := HY.out.cell 1 _ rfl
  clear hb0 hb1 y0 HK
  go_wp2_with fail
  have hb2 := below_alloc' w1 (.cells #[.string b] 9)
  have hS2 := Sl.new (s := 1) w1 9 1 1 #[.string b] rfl (Nat.le_refl _) (by decide)
  have HB2 := Lib.hid (HB.out.trans (hb2.mono HB.out.size))
  have HY2 := Lib.hid (HY.out.below HY.out.lt hb2)
  have HS2 := Lib.hid hS2
  clear hb2 hS2 z0 z1
  generalize w1.alloc (.cells #[.string b] 9) = w2 at *
  refine (HA.out _ b w2 (HN.out.below HB2.out) HS2.out (by intro s hs; simp at hs; subst hs; exact Hb.out)).mono ?_
  rintro e w3 ⟨iB, hiB, hsB, rfl, hmB, hb3⟩
  have HB3 := Lib.hid (HB2.out.trans (hb3.mono HB2.out.size))
  have HY3 := Lib.hid (HY2.out.below HY2.out.lt hb3)
  have HMB := Lib.hid hmB
  have HsB := Lib.hid hsB
  have HiB := Lib.hid (fun s y hy => Nat.le_trans (Nat.le_of_lt (step_lt (abI_steps fs [b] iB) (s := s) (y := y) hy)) hiB)
  obtain ⟨bB, hbB⟩ : ∃ bB, w2.heap.size + 1 = bB := ⟨_, rfl⟩
  rw [hbB] at HMB ⊢
  have z0 := HY3.out.cell 0 _ rfl
  have z1 := HY3.out.cell 1 _ rfl
  clear hmB hsB hiB hb3 hbB
  go_wp2_with fail
  have hb4 := below_alloc' w3 (.cells #[.string a] 9)
  have hS4 := Sl.new (s := 1) w3 9 1 1 #[.string a] rfl (Nat.le_refl _) (by decide)
  have HB4 := Lib.hid (HB3.out.trans (hb4.mono HB3.out.size))
  have HMB4 := Lib.hid (HMB.out.below HMB.out.lt hb4)
  have HS4 := Lib.hid hS4
  clear hb4 hS4 z0 z1
  generalize w3.alloc (.cells #[.string a] 9) = w4 at *
  refine (HA.out _ a w4 (HN.out.below HB4.out) HS4.out (by intro s hs; simp at hs; subst hs; exact Ha.out)).mono ?_
  rintro e w5 ⟨iA, hiA, hsA, rfl, hmA, hb5⟩
  have HB5 := Lib.hid (HB4.out.trans (hb5.mono HB4.out.size))
  have HMB5 := Lib.hid (HMB4.out.below HMB4.out.lt hb5)
  have HMA := Lib.hid hmA
  have HsA := Lib.hid hsA
  have HiA := Lib.hid (fun (p : ByteArray × Nat) hp => Nat.le_trans (Nat.le_of_lt (abI_steps fs [a] iA p hp)) hiA)
  have hAB : bB ≠ w4.heap.size + 1 := by have := HMB4.out.lt; omega
  obtain ⟨bA, hbA⟩ : ∃ bA, w4.heap.size + 1 = bA := ⟨_, rfl⟩
  rw [hbA] at HMA hAB ⊢
  obtain ⟨w6, hrun, hr6, hg6, hs6⟩ := hmA.range (P := Tryz.prog) (t := 104) Tryz.underlying104
  rw [hbA] at hrun hr6
  have HR6 := Lib.hid hr6
  have HG6 := Lib.hid hg6
  clear hr6 hg6 hs6 hmA hsA hiA hb5 hbA
  generalize hmAe : (abI fs [a] iA).1 = mA at *
  generalize hmBe : (abI fs [b] iB).1 = mB at *
  have HEA := Lib.hid hmAe
  have HEB := Lib.hid hmBe
  clear hmAe hmBe
  go_wp2
  have HMB6 := Lib.hid (HMB5.out.kept HG6.out (by simp))
  have HB6 := Lib.hid (HB5.out.grown HG6.out HB5.out.size (fun j e => by cases e))
  have HAB := Lib.hid hAB
  have HZ := Lib.hid (show bB < w5.heap.size from HMB5.out.lt)
  have HZ2 := Lib.hid HB5.out.size
  clear hAB hrun HMB HMB4 HMB5 HB HB2 HB3 HB4 HB5 HG6
  generalize w5.heap.size = br at *
  go_loopw [6, 7, 11] (fun u6 u7 u11 wr => ∃ (done rest : Sm) (fd : Bool) (up dn : Nat), u6 = .int .i64 up ∧ u7 = .int .i64 dn ∧ u11 = .bool fd ∧ Hid ((done ++ rest).Perm mA) ∧ Hid (RangeW wr bA br (kvN mA) (kvN rest)) ∧ Hid (BestP done mB fd up dn) ∧ up ≤ 25 ∧ dn ≤ 25 ∧ Hid (MapW wr bB (kvN mB)) ∧ Hid (Below w.heap.size w wr)) (fun _ _ _ wr => wr.rangeLeft bA br)
  case atStart => exact ⟨[], mA, false, 0, 0, rfl, rfl, rfl, List.Perm.refl _, HR6.out, ⟨fun _ => ⟨rfl, rfl, fun q hq => by cases hq⟩, fun h => by cases h⟩, by omega, by omega, HMB6.out, HB6.out⟩
  case round =>
    clear HMB6 HB6 HR6
    obtain ⟨done, rest, fd, up, dn, rfl, rfl, rfl, HPm, HR, HBe, hup, hdn, HM, HB⟩ := hrel
    rcases HR.out.next (P := Tryz.prog) 0 with ⟨h0, hn⟩ | ⟨pk, rest', w', hperm, hn, hr', hg', hsz, hen⟩
    · have he : rest = [] := by
        cases rest with
        | nil => rfl
        | cons z l => simp [kvN] at h0
      have HF := Lib.hid (show KinP fs a b w (.returned (.tuple #[.int .i64 (up : Int), .int .i64 (dn : Int), .int .i64 (if fd then 0 else 4)])) wr from ⟨HB.out, iA, iB, fd, up, dn, HsA.out, HsB.out, by
        have := HPm.out
        rw [he, List.append_nil] at this
        rw [HEA.out, HEB.out]
        have hb := HBe.out
        refine ⟨fun hf => ?_, fun hf => ?_⟩
        · obtain ⟨k1, k2, k3⟩ := hb.1 hf
          exact ⟨k1, k2, fun q hq => k3 q (this.mem_iff.2 hq)⟩
        · obtain ⟨⟨q, hq, k1⟩, k2⟩ := hb.2 hf
          exact ⟨⟨q, this.mem_iff.1 hq, k1⟩, fun z hz => k2 z (this.mem_iff.2 hz)⟩, rfl⟩)
      have HU := Lib.hid (HBe.out.1)
      clear h0 he
      cases fd with
      | true =>
        go_wp2
        go_ret3
        exact HF.out
      | false =>
        obtain ⟨hu0, hd0, _⟩ := HU.out rfl
        subst hu0
        subst hd0
        go_wp2
        go_ret3
        exact HF.out
    · obtain ⟨q, rest2, rfl, rfl, hp2⟩ := kvN_perm hperm
      have hqm : q ∈ mA := HPm.out.mem_iff.1 (by rw [List.mem_append]; exact .inr (hp2.mem_iff.2 (by simp)))
      have hq25 : q.2 ≤ 25 := HiA.out q hqm
      have HPd := Lib.hid (show ((done ++ [q]) ++ rest2).Perm mA by
        refine List.Perm.trans ?_ HPm.out
        rw [List.append_assoc]
        exact (hp2.symm.append_left done))
      have HR2 := Lib.hid hr'
      have HLen := Lib.hid (show (kvN rest).length = (kvN rest2).length + 1 by rw [hperm.length_eq]; rfl)
      have HMB2 := Lib.hid (HM.out.kept hg' (by have := HR.out.ne; have := HZ.out; simp; omega))
      have HB2 := Lib.hid (HB.out.grown hg' HB.out.size (fun j e => by cases e; exact HZ2.out))
      have hlk := HMB2.out.s.lookup (P := Tryz.prog) (t := 104) Tryz.underlying104 Tryz.underlying9 (Tryz.zeroValue3 _) q.1 true
      rw [getM_kvN] at hlk
      clear hperm hr' hg' hsz hp2 hqm
      obtain ⟨s, x⟩ := q
      simp only at hlk hq25 hn hen
      cases hy : stepOf mB s with
      | none =>
        rw [hy] at hlk
        simp only [Option.map_none] at hlk
        have HBs := Lib.hid (HBe.out.skip (q := (s, x)) (fun _ => hy) (fun _ y e => by rw [hy] at e; cases e))
        clear hy
        go_wp2
        go_roundw
        case rel => exact ⟨done ++ [(s, x)], rest2, fd, up, dn, rfl, rfl, rfl, HPd.out, HR2.out, HBs.out, by omega, by omega, HMB2.out, HB2.out⟩
        case measure => rw [HR2.out.left_eq, HR.out.left_eq, HLen.out]; omega
      | some y =>
        rw [hy] at hlk
        simp only [Option.map_some] at hlk
        have hy25 : y ≤ 25 := HiB.out s y hy
        have HYs := Lib.hid hy
        clear hy
        cases fd with
        | false =>
          have HBs := Lib.hid (HBe.out.take (q := (s, x)) HYs.out (fun e => by cases e))
          go_wp2
          go_roundw
          case rel => exact ⟨done ++ [(s, x)], rest2, true, x, y, rfl, rfl, rfl, HPd.out, HR2.out, HBs.out, by omega, by omega, HMB2.out, HB2.out⟩
          case measure => rw [HR2.out.left_eq, HR.out.left_eq, HLen.out]; omega
        | true =>
          by_cases h1 : x + y < up + dn
          · have HBs := Lib.hid (HBe.out.take (q := (s, x)) HYs.out (fun _ => .inl h1))
            have h1i : (x : Int) + (y : Int) < (up : Int) + (dn : Int) := by omega
            go_wp2
            go_roundw
            case rel => exact ⟨done ++ [(s, x)], rest2, true, x, y, rfl, rfl, rfl, HPd.out, HR2.out, HBs.out, by omega, by omega, HMB2.out, HB2.out⟩
            case measure => rw [HR2.out.left_eq, HR.out.left_eq, HLen.out]; omega
          · by_cases h2 : x + y = up + dn
            · by_cases h3 : x < up
              · have HBs := Lib.hid (HBe.out.take (q := (s, x)) HYs.out (fun _ => .inr ⟨h2, h3⟩))
                have h1i : ¬ (x : Int) + (y : Int) < (up : Int) + (dn : Int) := by omega
                have h2i : ((x : Int) + (y : Int) == (up : Int) + (dn : Int)) = true := by rw [beq_iff_eq]; omega
                have h3i : (x : Int) < (up : Int) := by omega
                clear h1 h2
                go_wp2
                go_roundw
                case rel => exact ⟨done ++ [(s, x)], rest2, true, x, y, rfl, rfl, rfl, HPd.out, HR2.out, HBs.out, by omega, by omega, HMB2.out, HB2.out⟩
                case measure => rw [HR2.out.left_eq, HR.out.left_eq, HLen.out]; omega
              · have HBs := Lib.hid (HBe.out.skip (q := (s, x)) (fun e => by cases e) (fun _ v e => by rw [HYs.out] at e; cases e; simp only; omega))
                have h1i : ¬ (x : Int) + (y : Int) < (up : Int) + (dn : Int) := by omega
                have h2i : ((x : Int) + (y : Int) == (up : Int) + (dn : Int)) = true := by rw [beq_iff_eq]; omega
                have h3i : ¬ (x : Int) < (up : Int) := by omega
                clear h1 h2
                go_wp2
                go_roundw
                case rel => exact ⟨done ++ [(s, x)], rest2, true, up, dn, rfl, rfl, rfl, HPd.out, HR2.out, HBs.out, by omega, by omega, HMB2.out, HB2.out⟩
                case measure => rw [HR2.out.left_eq, HR.out.left_eq, HLen.out]; omega
            · have HBs := Lib.hid (HBe.out.skip (q := (s, x)) (fun e => by cases e) (fun _ v e => by rw [HYs.out] at e; cases e; simp only; omega))
              have h1i : ¬ (x : Int) + (y : Int) < (up : Int) + (dn : Int) := by omega
              have h2i : ((x : Int) + (y : Int) == (up : Int) + (dn : Int)) = false := by rw [beq_eq_false_iff_ne]; omega
              clear h1 h2
              go_wp2
              go_roundw
              case rel => exact ⟨done ++ [(s, x)], rest2, true, up, dn, rfl, rfl, rfl, HPd.out, HR2.out, HBs.out, by omega, by omega, HMB2.out, HB2.out⟩
              case measure => rw [HR2.out.left_eq, HR.out.left_eq, HLen.out]; omega
end

section
open Go Go.RowKit Go.Shelf
attribute [local go_sem] Oper.semAt_some

/-- May one person not be shown to be the elder one of two? -/
def youngerB (D : Mat) (ps : List ByteArray) (s t : ByteArray) : Bool := decide (s ≠ t) && !mustB D ps ⟨3, s, t, 0⟩
set_option maxRecDepth 100000 in
set_option maxHeartbeats 1000000 in
theorem heirs1_any (B Bs Bl : Nat) (ps : List ByteArray) (s t : ByteArray) (D : Mat) (pv : Value) (vs : Array Value) (w : World) (hC : Cel w B 134 vs) (hV : LvV vs pv D) (hS : Sl w 1 pv (namesV ps)) (hp : ps.length ≤ 24) (hs : s ∈ ps) (ht : t ∈ ps)
    (hcs : Cel w Bs 9 #[.string s]) (hcl : Cel w Bl 85 #[.pointer (some ⟨B, 0, none⟩)]) :
    Calls Tryz.prog 62 #[.string t, .pointer (some ⟨Bs, 0, none⟩), .pointer (some ⟨Bl, 0, none⟩)] w fun e w' => e = .returned (.bool (youngerB D ps s t)) ∧ Below w.heap.size w w' := by
  have c1 := hcs.cell 0 _ rfl
  have c2 := hcl.cell 0 _ rfl
  by_cases hst : s = t
  · have HR := Lib.hid (show youngerB D ps s t = false by unfold youngerB; rw [decide_eq_false (fun q => q hst)]; rfl)
    have hq : (s.toList == t.toList) = true := by rw [hst]; simp
    clear hC hV hS hcs hcl hst
    go_enter Tryz.func62, Tryz.ntmps62
    go_wp2
    go_ret
    exact ⟨by rw [HR.out]; rfl, Below.refl _ _⟩
  · have hab : aboutB ps ⟨3, s, t, 0⟩ = true := aboutB_iff.2 ⟨⟨by simp, by simp⟩, hs, fun _ => ⟨fun q => hst q.symm, ht, rfl⟩, fun q => absurd (show (3 : Int) ≤ 3 by decide) q⟩
    have HM := Lib.hid (pmust_any B ps ⟨3, s, t, 0⟩ D pv vs w hC hV hS hp hab)
    have HR := Lib.hid (show youngerB D ps s t = !mustB D ps ⟨3, s, t, 0⟩ by unfold youngerB; rw [decide_eq_true hst]; rfl)
    have hq : (s.toList == t.toList) = false := by rw [Bool.eq_false_iff]; intro z; exact hst ((Lib.bytes_beq_iff _ _).1 z)
    unfold faA at HM
    simp only at HM
    clear hC hV hS hcs hcl hst hab
    go_enter Tryz.func62, Tryz.ntmps62
    go_wp2_with fail
    refine HM.out.mono ?_
    rintro e w1 ⟨rfl, hb⟩
    have HB := Lib.hid hb
    clear hb
    generalize mustB D ps ⟨3, s, t, 0⟩ = r at *
    go_wp2
    go_ret
    exact ⟨by rw [HR.out]; rfl, HB.out⟩
/-- A function value that tells strings apart, in whatever world has come of w. -/
def TellsS (w : World) (g : Nat) (lb : Array Value) (p : ByteArray → Bool) (l : List ByteArray) : Prop := ∀ w', Below w.heap.size w w' → ∀ b ∈ l, Calls Tryz.prog g (#[.string b] ++ lb) w' fun e w'' => e = .returned (.bool (p b)) ∧ Below w'.heap.size w' w''
set_option maxRecDepth 100000 in
set_option maxHeartbeats 1000000 in
theorem indexFuncS (p : ByteArray → Bool) (Bs Bl : Nat) (l : List ByteArray) (v : Value) (w : World) (hv : Sl w 1 v (namesV l)) (hT : TellsS w 62 #[.pointer (some ⟨Bs, 0, none⟩), .pointer (some ⟨Bl, 0, none⟩)] p l) :
    Calls Tryz.prog 101 #[v, .func (.func 62) #[] #[.pointer (some ⟨Bs, 0, none⟩), .pointer (some ⟨Bl, 0, none⟩)]] w fun e w' => (∃ i : Int, e = .returned (.int .i64 i) ∧ decide (0 ≤ i) = l.any p) ∧ Below w.heap.size w w' := by
  obtain ⟨V, n, c, rfl, hl, hcap, hcm, hcl⟩ := hv.open2 (by decide)
  rw [namesV_length] at hl
  obtain rfl : n = l.length := by omega
  have HCl := Lib.hid hcl
  have HT := Lib.hid hT
  clear hv hT hcl hl
  go_enter Tryz.func101, Tryz.ntmps101
  go_wp2
  go_loopw [8] (fun ti wr => ∃ k : Nat, ti = .int .i64 k ∧ k ≤ l.length ∧ Hid (Below w.heap.size w wr) ∧ Hid (∀ b ∈ l.take k, p b = false)) (fun ti _ => l.length - (intOf ti).toNat)
  case atStart => exact ⟨0, rfl, by omega, Below.refl _ _, fun b hb => by simp at hb⟩
  case round =>
    obtain ⟨k, rfl, hk, HW, HO⟩ := hrel
    by_cases hlt : k < l.length
    · have hki : (k : Int) < (l.length : Int) := by omega
      obtain ⟨b0, o0, rfl, hb, hce⟩ := HCl.out (by omega)
      have hg : l[k]? = some l[k] := List.getElem?_eq_getElem hlt
      have d1 := below_cell HW.out (hce k (.string l[k]) (by simp [namesV, hg]))
      have HC := Lib.hid (HT.out _ HW.out l[k] (List.getElem_mem hlt))
      have HM := Lib.hid (List.getElem_mem hlt)
      have HTk := Lib.hid (show l.take (k + 1) = l.take k ++ [l[k]] by rw [List.take_add_one, hg]; rfl)
      clear hg hce
      generalize l[k] = b at *
      simp only [List.append_toArray, List.cons_append, List.nil_append] at HC
      go_wp2_with fail
      refine HC.out.mono ?_
      rintro e w2 ⟨rfl, hb2⟩
      have HW2 := Lib.hid (HW.out.trans (hb2.mono HW.out.size))
      clear hb2 d1
      cases hq : p b with
      | true =>
        have HR := Lib.hid (show l.any p = true by rw [List.any_eq_true]; exact ⟨_, HM.out, hq⟩)
        clear hq
        go_wp2
        go_ret
        exact ⟨⟨_, rfl, by rw [HR.out]; exact decide_eq_true (by omega)⟩, HW2.out⟩
      | false =>
        have HQ := Lib.hid hq
        clear hq
        go_wp2
        go_roundw
        case rel =>
          refine ⟨k + 1, by go_num, by omega, HW2.out, ?_⟩
          show ∀ b ∈ l.take (k + 1), p b = false
          rw [HTk.out]
          intro b hb
          rcases List.mem_append.1 hb with q | q
          · exact HO.out b q
          · rw [List.mem_singleton.1 q]; exact HQ.out
        case measure => simp [intOf]; omega
    · have hkn : k = l.length := by omega
      have HR := Lib.hid (show l.any p = false by
        rw [List.any_eq_false]
        intro b hb
        have := HO.out b (by rw [hkn, List.take_length]; exact hb)
        rw [this]
        simp)
      clear hkn
      go_wp2
      go_ret
      exact ⟨⟨_, rfl, by rw [HR.out]; rfl⟩, HW.out⟩
set_option maxHeartbeats 1000000 in
theorem containsFuncS (p : ByteArray → Bool) (Bs Bl : Nat) (l : List ByteArray) (v : Value) (w : World) (hv : Sl w 1 v (namesV l)) (hT : TellsS w 62 #[.pointer (some ⟨Bs, 0, none⟩), .pointer (some ⟨Bl, 0, none⟩)] p l) :
    Calls Tryz.prog 61 #[v, .func (.func 62) #[] #[.pointer (some ⟨Bs, 0, none⟩), .pointer (some ⟨Bl, 0, none⟩)]] w fun e w' => e = .returned (.bool (l.any p)) ∧ Below w.heap.size w w' := by
  have HI := Lib.hid (indexFuncS p Bs Bl l v w hv hT)
  obtain ⟨V, n, c, rfl, _⟩ := hv.shape
  clear hT
  go_enter Tryz.func61, Tryz.ntmps61
  go_wp2_with fail
  refine HI.out.mono ?_
  rintro e w' ⟨⟨i, rfl, hi⟩, hb⟩
  have HH := Lib.hid hi
  have HB := Lib.hid hb
  clear hi hb
  go_wp2
  go_ret
  exact ⟨by rw [← HH.out]; rfl, HB.out⟩
end

section
open Go Go.RowKit Go.Shelf
attribute [local go_sem] Oper.semAt_some

theorem childrenL_mem {ps : List ByteArray} {fs : List Fa} (h : AllAbout ps fs) {s t : ByteArray} (ht : t ∈ childrenL fs s) : t ∈ ps := by
  unfold childrenL at ht
  obtain ⟨f, hf, rfl⟩ := List.mem_map.1 ht
  exact (aboutB_iff.1 (h f (List.mem_filter.1 hf).1)).2.1
theorem childrenF_mem {ps : List ByteArray} {fs : List Fa} (h : AllAbout ps fs) {s t : ByteArray} (ht : t ∈ childrenF fs s) : t ∈ ps := childrenL_mem h (mem_setL.1 ht)
theorem childrenF_length (fs : List Fa) (s : ByteArray) : (childrenF fs s).length ≤ fs.length := by
  have a := setL_length_le (childrenL fs s)
  have b := childrenL_length fs s fs.length
  rw [List.take_length] at b
  unfold childrenF
  omega
/-- Those than whom nobody else may be older. -/
def elderF (D : Mat) (ps hs : List ByteArray) : List ByteArray → List ByteArray := List.filter fun s => !hs.any (youngerB D ps s)
theorem elderF_take {D : Mat} {ps hs l : List ByteArray} {k : Nat} {s : ByteArray} (h : l[k]? = some s) : elderF D ps hs (l.take (k + 1)) = elderF D ps hs (l.take k) ++ (if hs.any (youngerB D ps s) then [] else [s]) := by
  unfold elderF
  rw [List.take_add_one, h]
  simp only [Option.toList_some, List.filter_append]
  congr 1
  cases hq : hs.any (youngerB D ps s) with
  | true => simp only [List.filter_cons, hq, Bool.not_true, Bool.false_eq_true, if_false, List.filter_nil, if_true]
  | false => simp only [List.filter_cons, hq, Bool.not_false, if_true, List.filter_nil, Bool.false_eq_true, if_false]
theorem elderF_length (D : Mat) (ps hs l : List ByteArray) (k : Nat) : (elderF D ps hs (l.take k)).length ≤ k := Nat.le_trans (List.length_filter_le _ _) (by simp; omega)
/-- Into how many parts; who has two of them. -/
def partsF (hs el : List ByteArray) : Nat := if 1 < hs.length ∧ el.length = 1 then hs.length + 1 else hs.length
def firstF (hs el : List ByteArray) : ByteArray := if 1 < hs.length ∧ el.length = 1 then el.headD ⟨#[]⟩ else ⟨#[]⟩
def shareR (fi : ByteArray) (parts : Nat) (s : ByteArray) : RR := ratioF (if s = fi then 2 else 1) (parts : Int)
def shareV (fi : ByteArray) (parts : Nat) (s : ByteArray) : List Value := [.string s, .int .i64 (shareR fi parts s).n, .int .i64 (shareR fi parts s).d]
def sharesV (fi : ByteArray) (parts : Nat) (l : List ByteArray) : List Value := l.flatMap (shareV fi parts)
theorem sharesV_take {fi : ByteArray} {parts : Nat} {l : List ByteArray} {k : Nat} {s : ByteArray} (h : l[k]? = some s) : sharesV fi parts (l.take (k + 1)) = sharesV fi parts (l.take k) ++ shareV fi parts s := by
  unfold sharesV
  rw [List.take_add_one, h]
  simp
theorem sharesV_length (fi : ByteArray) (parts : Nat) (l : List ByteArray) : (sharesV fi parts l).length = l.length * 3 := by
  unfold sharesV
  induction l with
  | nil => rfl
  | cons s l ih => rw [List.flatMap_cons, List.length_append, ih]; simp [shareV]; omega
/-- What Heirs answers: shares, an error. -/
def heirsV (ps : List ByteArray) (fs : List Fa) (s : ByteArray) : List Value × Int :=
  if namedF ps fs [s] ≠ 0 then ([], namedF ps fs [s]) else match solveF ps fs with
    | none => ([], 101)
    | some D => (sharesV (firstF (childrenF fs s) (elderF D ps (childrenF fs s) (childrenF fs s))) (partsF (childrenF fs s) (elderF D ps (childrenF fs s) (childrenF fs s))) (childrenF fs s), 0)
def HeirsP (r : List Value × Int) (w : World) (e : Ending) (w' : World) : Prop := Below w.heap.size w w' ∧ ∃ v, e = .returned (.tuple #[v, .int .i64 r.2]) ∧ Sl w' 3 v r.1
set_option maxRecDepth 100000 in
set_option maxHeartbeats 1000000 in
theorem heirs_bad (r : Int) (hr : r = 3 ∨ r = 100 ∨ r = 2) (A : Option Addr) (n c : Nat) (F : Option Addr) (m d : Nat) (ps : List ByteArray) (fs : List Fa) (a : ByteArray) (w : World) (h : NetC w A n c F m d ps fs) (hs : Short ps) (hc : namedF ps fs [a] = r) :
    Calls Tryz.prog 12 #[.agg #[.slice A n c, .slice F m d], .string a] w (HeirsP ([], r) w) := by
  have hb0 := (below_alloc' w (.cells #[.slice A n c, .slice F m d] 25)).alloc (by simp) (.cells #[.string a] 9)
  have hS1 := Sl.new (s := 1) (w.alloc (.cells #[.slice A n c, .slice F m d] 25)) 9 1 1 #[.string a] rfl (Nat.le_refl _) (by decide)
  rw [World.size_alloc] at hS1
  have HK := Lib.hid (checkNames_any A n c F m d ps fs (.slice (some ⟨w.heap.size + 1, 0, none⟩) 1 1) [a] _ (h.below hb0) hs hS1)
  rw [hc] at HK
  clear h hs hc hS1
  rcases hr with rfl | rfl | rfl
  all_goals
    go_enter Tryz.func12, Tryz.ntmps12
    go_wp2_with fail
    refine HK.out.mono ?_
    rintro e w1 ⟨rfl, hb1⟩
    have HB := Lib.hid (hb0.trans (hb1.mono hb0.size))
    clear hb0 hb1
    go_wp2
    go_ret2
    exact ⟨HB.out, _, rfl, Sl.nil0 _ _⟩
set_option maxRecDepth 100000 in
set_option maxHeartbeats 4000000 in
theorem heirs_good (A : Option Addr) (n c : Nat) (F : Option Addr) (m d : Nat) (ps : List ByteArray) (fs : List Fa) (a : ByteArray) (w : World) (h : NetC w A n c F m d ps fs) (hz : Zw w) (hs : Short ps) (hc : namedF ps fs [a] = 0) (hf : AllAbout ps fs) (hp : ps.length ≤ 24) (hfew : fs.length ≤ 48) :
    Calls Tryz.prog 12 #[.agg #[.slice A n c, .slice F m d], .string a] w (HeirsP (heirsV ps fs a) w) := by
  have hb0 := (below_alloc' w (.cells #[.slice A n c, .slice F m d] 25)).alloc (by simp) (.cells #[.string a] 9)
  have y0 := (Cel.new w 25 #[.slice A n c, .slice F m d]).alloc (.cells #[.string a] 9)
  have hS1 := Sl.new (s := 1) (w.alloc (.cells #[.slice A n c, .slice F m d] 25)) 9 1 1 #[.string a] rfl (Nat.le_refl _) (by decide)
  rw [World.size_alloc] at hS1
  have HK := Lib.hid (checkNames_any A n c F m d ps fs (.slice (some ⟨w.heap.size + 1, 0, none⟩) 1 1) [a] _ (h.below hb0) hs hS1)
  rw [hc] at HK
  have HN := Lib.hid h
  have HZw := Lib.hid hz
  have HS := Lib.hid (fun w' h' => solve_any A n c F m d ps fs w' h' hp hf)
  have HCh := Lib.hid (fun w' h' => children_any A n c F m d ps fs a w' h' hfew)
  have HMem := Lib.hid (fun t (ht : t ∈ childrenF fs a) => childrenF_mem hf ht)
  have HLn := Lib.hid (Nat.le_trans (childrenF_length fs a) hfew)
  have HV0 := Lib.hid (show heirsV ps fs a = _ from by unfold heirsV; rw [hc, if_neg (fun q => q rfl)])
  generalize childrenF fs a = ch at *
  clear h hz hs hc hS1 hf
  go_enter Tryz.func12, Tryz.ntmps12
  go_wp2_with fail
  refine HK.out.mono ?_
  rintro e w1 ⟨rfl, hb1⟩
  have HB := Lib.hid (hb0.trans (hb1.mono hb0.size))
  have HY := Lib.hid (y0.below y0.lt hb1)
  have z0 := HY.out.cell 0 _ rfl
  have z1 := HY.out.cell 1 _ rfl
  clear hb0 hb1 y0 HK
  go_wp2_with fail
  refine (HS.out w1 (HN.out.below HB.out)).mono ?_
  rintro e w2 ⟨hb2, h2⟩
  have HB2 := Lib.hid (HB.out.trans (hb2.mono HB.out.size))
  have HY2 := Lib.hid (HY.out.below HY.out.lt hb2)
  clear hb2 z0 z1 HS
  rcases h2 with ⟨hq, rfl⟩ | ⟨D, Bl, vs, hq, rfl, hBl, hV, hC⟩
  · have HQ := Lib.hid (show heirsV ps fs a = ([], 101) by rw [HV0.out, hq])
    have hbx := HB2.out.alloc HB2.out.size (.cells #[.pointer none] 85)
    have HBx := Lib.hid hbx
    clear hq hbx
    go_wp2
    go_ret2
    rw [HQ.out]
    exact ⟨HBx.out, _, rfl, Sl.nil0 _ _⟩
  · have HQ2 := Lib.hid (show heirsV ps fs a = (sharesV (firstF ch (elderF D ps ch ch)) (partsF ch (elderF D ps ch ch)) ch, 0) by rw [HV0.out, hq])
    have hmf : ∀ (fn : Fn) (first cap : Array Value) (w : World), (Instr.makeFunc fn first cap).run Tryz.prog w = .ok (.func fn first cap) w := fun _ _ _ _ => rfl
    have y7 := Cel.new w2 85 #[.pointer (some ⟨Bl, 0, none⟩)]
    have hbx := HB2.out.alloc HB2.out.size (.cells #[.pointer (some ⟨Bl, 0, none⟩)] 85)
    have HB3 := Lib.hid hbx
    have HY3 := Lib.hid (HY2.out.alloc (.cells #[.pointer (some ⟨Bl, 0, none⟩)] 85))
    have HC3 := Lib.hid (hC.alloc (.cells #[.pointer (some ⟨Bl, 0, none⟩)] 85))
    have H73 := Lib.hid y7
    have HV := Lib.hid hV
    have z0 := HY3.out.cell 0 _ rfl
    have z1 := HY3.out.cell 1 _ rfl
    clear hq hbx y7 hC hV hBl HV0 HY HB
    obtain ⟨b7, hb7⟩ : ∃ b7, w2.heap.size = b7 := ⟨_, rfl⟩
    go_wp2_with fail
    rw [hb7] at H73
    generalize w2.alloc (.cells #[.pointer (some ⟨Bl, 0, none⟩)] 85) = w3 at *
    refine (HCh.out w3 (HN.out.below HB3.out)).mono ?_
    rintro e w4 ⟨v4, rfl, ho4, hb4⟩
    obtain ⟨A4, c4, rfl, _⟩ := own_shape ho4
    have HS4 := Lib.hid (Sl.of_own ho4)
    have HB4 := Lib.hid (HB3.out.trans (hb4.mono HB3.out.size))
    have HC4 := Lib.hid (HC3.out.below HC3.out.lt hb4)
    have H74 := Lib.hid (H73.out.below H73.out.lt hb4)
    clear ho4 hb4 hb7 z0 z1 HCh HB3 HY3 HC3 H73 HY2 HB2
    go_wp2
    go_loopw [10, 40] (fun v10 t40 wr => ∃ k : Nat, t40 = .int .i64 k ∧ k ≤ ch.length ∧ Hid (wr.ownsRow w4.heap.size 9 1 v10 (elderF D ps ch (ch.take k)).length (namesV (elderF D ps ch (ch.take k)))) ∧ Hid (Below w4.heap.size w4 wr)) (fun _ t40 _ => ch.length - (intOf t40).toNat)
    case atStart => exact ⟨0, rfl, by omega, World.ownsRow_nil _ _ _ _, Below.refl _ _⟩
    case round =>
      obtain ⟨k, rfl, hk, HO, HB⟩ := hrel
      by_cases hlt : k < ch.length
      · have hki : (k : Int) < (ch.length : Int) := by omega
        obtain ⟨_, _, _, e4, _, _, _, hcl⟩ := HS4.out.open2 (by decide)
        cases e4
        obtain ⟨b4, o4, e4, hbb, hce⟩ := hcl (by omega)
        subst e4
        have hget : ch[k]? = some ch[k] := List.getElem?_eq_getElem hlt
        have d1 := below_cell HB.out (hce k (.string ch[k]) (by simp [namesV, hget]))
        have HT := Lib.hid (elderF_take (D := D) (ps := ps) (hs := ch) hget)
        have HsM := Lib.hid (HMem.out _ (List.getElem_mem hlt))
        have HEl := Lib.hid (elderF_length D ps ch ch k)
        clear hce hget hcl hbb
        generalize ch[k] = s at *
        have HB5 := Lib.hid (HB.out.alloc HB.out.size (.cells #[.string s] 9))
        have HO5 := Lib.hid (HO.out.alloc (.cells #[.string s] 9))
        have H5 := Lib.hid (Cel.new wr 9 #[.string s])
        have HCon := Lib.hid (containsFuncS (youngerB D ps s) wr.heap.size b7 ch (.slice (some ⟨b4, o4, none⟩) ch.length c4) (wr.alloc (.cells #[.string s] 9)) (HS4.out.below HB5.out) (fun w' hb' t ht => heirs1_any Bl wr.heap.size b7 ps s t D (.slice A n c) vs w' ((HC4.out.below HC4.out.lt HB5.out).below (Nat.lt_of_lt_of_le HC4.out.lt HB5.out.size) hb') HV.out ((HN.out.people.below (HB4.out.trans (HB5.out.mono HB4.out.size))).below hb') hp HsM.out (HMem.out t ht) (H5.out.below H5.out.lt hb') ((H74.out.below H74.out.lt HB5.out).below (Nat.lt_of_lt_of_le H74.out.lt HB5.out.size) hb')))
        go_wp2_with fail
        refine HCon.out.mono ?_
        rintro e w6 ⟨rfl, hb6⟩
        have HB6 := Lib.hid (HB5.out.trans (hb6.mono HB5.out.size))
        have HO6 := Lib.hid (own_below HO5.out hb6)
        have y6 := H5.out.below H5.out.lt hb6
        have g6 := y6.cell 0 (.string s) rfl
        clear hb6 y6 d1 HCon HB5 HO5 H5
        cases hq : ch.any (youngerB D ps s) with
        | true =>
          have HT2 := Lib.hid (HT.out.trans (by rw [hq, if_pos rfl, List.append_nil]))
          clear hq
          go_wp2
          go_roundw
          case rel => exact ⟨k + 1, by go_num, by omega, by rw [HT2.out]; exact HO6.out, HB6.out⟩
          case measure => simp [intOf]; omega
        | false =>
          have HT2 := Lib.hid (HT.out.trans (by rw [hq, if_neg (by decide)]))
          have HO7 := Lib.hid (HO6.out.alloc (.cells #[.string s] 9))
          have HB7 := Lib.hid (HB6.out.alloc HB6.out.size (.cells #[.string s] 9))
          have HS7 := Lib.hid (Sl.new (s := 1) w6 9 1 1 #[.string s] rfl (Nat.le_refl _) (by decide))
          clear hq
          go_wp2_with (at_builtin; refine appStr _ _ rfl rfl rfl rfl HO7.out HS7.out (by simp [Value.oneCell']) (N := (elderF D ps ch (ch.take k)).length + 1) (by simp) (by have := HEl.out; have := HLn.out; omega) HB7.out.size ?_; intro A8 c8 w8 hap)
          have HB8 := Lib.hid (below_of_own hap.grown HO7.out HB7.out (Nat.le_refl _))
          have HO8 := Lib.hid hap.own
          clear hap g6
          go_wp2
          go_roundw
          case rel => exact ⟨k + 1, by go_num, by omega, by rw [HT2.out, namesV_append, List.length_append]; exact HO8.out, HB8.out⟩
          case measure => simp [intOf]; omega
      · have HK := Lib.hid (show ch.take k = ch from List.take_of_length_le (by omega))
        rw [HK.out] at HO
        have HBr := Lib.hid (HB4.out.trans (HB.out.mono HB4.out.size))
        have HSr := Lib.hid (HS4.out.below HB.out)
        clear HK HB HB4 HC4 H74 HS4 HV
        generalize elderF D ps ch ch = el at *
        obtain ⟨A5, c5, e5, _⟩ := own_shape HO.out
        subst e5
        go_upto_region 17 with fail
        go_cut [62] (fun t62 wx => t62 = .bool (decide (1 < ch.length ∧ el.length = 1)) ∧ wx = wr)
        case first =>
          by_cases h1 : 1 < ch.length
          · have h1i : (1 : Int) < (ch.length : Int) := by omega
            by_cases h2 : el.length = 1
            · have h2i : ((el.length : Int) == 1) = true := by rw [beq_iff_eq]; omega
              have HT := Lib.hid (show decide (1 < ch.length ∧ el.length = 1) = true from decide_eq_true ⟨h1, h2⟩)
              clear h2
              go_wp2
              go_meet
              exact ⟨by rw [HT.out], rfl⟩
            · have h2i : ((el.length : Int) == 1) = false := by rw [beq_eq_false_iff_ne]; omega
              have HT := Lib.hid (show decide (1 < ch.length ∧ el.length = 1) = false from decide_eq_false fun q => h2 q.2)
              clear h2
              go_wp2
              go_meet
              exact ⟨by rw [HT.out], rfl⟩
          · have h1i : ¬ (1 : Int) < (ch.length : Int) := by omega
            have HT := Lib.hid (show decide (1 < ch.length ∧ el.length = 1) = false from decide_eq_false fun q => h1 q.1)
            clear h1
            go_wp2
            go_meet
            exact ⟨by rw [HT.out], rfl⟩
        case rest =>
          obtain ⟨rfl, hwc⟩ := hcut
          replace hwc := hwc.symm
          subst hwc
          go_upto_if 62 with fail
          go_cut [13, 14] (fun t13 t14 wx => t13 = .int .i64 ((partsF ch el : Nat) : Int) ∧ t14 = .string (firstF ch el) ∧ ∃ Wc : World, Wc = wx ∧ Below w.heap.size w Wc ∧ Sl Wc 1 (.slice A4 ch.length c4) (namesV ch))
          case first =>
            by_cases h12 : 1 < ch.length ∧ el.length = 1
            · obtain ⟨h1, h2⟩ := h12
              have HT := Lib.hid (show decide (1 < ch.length ∧ el.length = 1) = true from decide_eq_true ⟨h1, h2⟩)
              obtain ⟨x, rfl⟩ : ∃ x, el = [x] := by
                cases el with
                | nil => cases h2
                | cons x l => cases l with
                  | nil => exact ⟨x, rfl⟩
                  | cons y l => simp at h2
              have HP := Lib.hid (show partsF ch [x] = ch.length + 1 by unfold partsF; rw [if_pos ⟨h1, rfl⟩])
              have HFi := Lib.hid (show firstF ch [x] = x by unfold firstF; rw [if_pos ⟨h1, rfl⟩]; rfl)
              obtain ⟨_, _, _, e5, _, _, _, hcl5⟩ := (Sl.of_own HO.out).open2 (by decide)
              cases e5
              obtain ⟨b5, o5, e5, _, hce5⟩ := hcl5 (by simp)
              subst e5
              have d5 := hce5 0 (.string x) rfl
              simp only [Nat.add_zero] at d5
              have hw : IntKind.i64.wrap ((ch.length : Int) + 1) = (ch.length : Int) + 1 := IntWalk.i64_in _ (by have := HLn.out; omega)
              clear hce5 hcl5 h1 h2
              rw [HT.out]
              go_upto_region 18 with fail
              go_quiet (fail)
              go_wp2
              go_meet
              exact ⟨by rw [HP.out]; rfl, by rw [HFi.out], _, rfl, below_drewN HBr.out _, HSr.out.drewN _⟩
            · have HT := Lib.hid (show decide (1 < ch.length ∧ el.length = 1) = false from decide_eq_false h12)
              have HP := Lib.hid (show partsF ch el = ch.length by unfold partsF; rw [if_neg h12])
              have HFi := Lib.hid (show firstF ch el = ⟨#[]⟩ by unfold firstF; rw [if_neg h12])
              clear h12
              rw [HT.out]
              go_wp2
              go_meet
              exact ⟨by rw [HP.out], by rw [HFi.out], _, rfl, HBr.out, HSr.out⟩
          case rest =>
            have HQe := Lib.hid HQ2.out
            obtain ⟨rfl, rfl, Wz, rfl, hbz, hsz⟩ := hcut
            have HBz := Lib.hid hbz
            have HSz := Lib.hid hsz
            have HPa := Lib.hid (show partsF ch el ≤ 100 by unfold partsF; have := HLn.out; split <;> omega)
            clear hbz hsz HQ2 HO HBr HSr
            generalize partsF ch el = pa at *
            generalize firstF ch el = fi at *
            have hpa := HPa.out
            go_wp2
            go_loopw [15, 70] (fun v15 t70 wi => ∃ k : Nat, t70 = .int .i64 k ∧ k ≤ ch.length ∧ Hid (wi.ownsRow Wz.heap.size 34 3 v15 k (sharesV fi pa (ch.take k))) ∧ Hid (Below Wz.heap.size Wz wi)) (fun _ t70 _ => ch.length - (intOf t70).toNat)
            case atStart => exact ⟨0, rfl, by omega, World.ownsRow_nil _ _ _ _, Below.refl _ _⟩
            case round =>
              obtain ⟨k, rfl, hk, HO, HB⟩ := hrel
              by_cases hlt : k < ch.length
              · have hki : (k : Int) < (ch.length : Int) := by omega
                have hln := HLn.out
                obtain ⟨_, _, _, e4, _, _, _, hcl⟩ := HSz.out.open2 (by decide)
                cases e4
                obtain ⟨b4, o4, e4, hbb, hce⟩ := hcl (by omega)
                subst e4
                have hget : ch[k]? = some ch[k] := List.getElem?_eq_getElem hlt
                have d1 := below_cell HB.out (hce k (.string ch[k]) (by simp [namesV, hget]))
                have HSt := Lib.hid (sharesV_take (fi := fi) (parts := pa) hget)
                have HBr := Lib.hid HBz.out
                clear hce hget hcl hbb
                generalize ch[k] = s at *
                by_cases hsf : s = fi
                · have HR := Lib.hid (show shareV fi pa s = [.string s, .int .i64 (ratioF 2 (pa : Int)).n, .int .i64 (ratioF 2 (pa : Int)).d] by unfold shareV shareR; rw [if_pos hsf])
                  have heq : (s.toList == fi.toList) = true := by rw [hsf]; simp
                  have HRt := Lib.hid (ratio_any 2 (pa : Int) wr (HZw.out.below (HBr.out.trans (HB.out.mono HBr.out.size))) (by decide) (by decide) (by omega) (by omega))
                  unfold rrV at HRt
                  generalize ratioF 2 (pa : Int) = rr at *
                  obtain ⟨rn, rd, re⟩ := rr
                  simp only at HRt HR
                  clear hsf
                  go_wp2_with fail
                  refine HRt.out.mono ?_
                  rintro e w8 ⟨rfl, hb8⟩
                  have HB8 := Lib.hid (HB.out.trans (hb8.mono HB.out.size))
                  have HO8 := Lib.hid ((own_below HO.out hb8).alloc (.cells #[.int .i64 rn, .int .i64 rd] 32))
                  have HB9 := Lib.hid (HB8.out.alloc HB8.out.size (.cells #[.int .i64 rn, .int .i64 rd] 32))
                  have y8 := Cel.new w8 32 #[.int .i64 rn, .int .i64 rd]
                  have r0 := y8.cell 0 _ rfl
                  have r1 := y8.cell 1 _ rfl
                  clear hb8 y8 HRt d1
                  go_upto_region 27 with fail
                  generalize w8.alloc (.cells #[.int .i64 rn, .int .i64 rd] 32) = w9 at *
                  have HO9 := Lib.hid (HO8.out.alloc (.cells #[.string s, .int .i64 rn, .int .i64 rd] 34))
                  have HBa := Lib.hid (HB9.out.alloc HB9.out.size (.cells #[.string s, .int .i64 rn, .int .i64 rd] 34))
                  have HSa := Lib.hid (Sl.new (s := 3) w9 34 1 1 #[.string s, .int .i64 rn, .int .i64 rd] rfl (Nat.le_refl _) (by decide))
                  go_wp2_with (at_builtin; refine appShare _ _ rfl rfl rfl rfl HO9.out HSa.out (by intro u hu; simp at hu; rcases hu with rfl | rfl | rfl <;> rfl) (N := k + 1) (by show k * 3 + 3 = (k + 1) * 3; omega) (by omega) HBa.out.size ?_; intro A9 c9 w10 hap)
                  have HB10 := Lib.hid (below_of_own hap.grown HO9.out HBa.out (Nat.le_refl _))
                  have HO10 := Lib.hid hap.own
                  clear hap r0 r1
                  go_wp2
                  go_roundw
                  case rel => exact ⟨k + 1, by go_num, by omega, by rw [HSt.out, HR.out]; exact HO10.out, HB10.out⟩
                  case measure => simp [intOf]; omega
                · have HR := Lib.hid (show shareV fi pa s = [.string s, .int .i64 (ratioF 1 (pa : Int)).n, .int .i64 (ratioF 1 (pa : Int)).d] by unfold shareV shareR; rw [if_neg hsf])
                  have heq : (s.toList == fi.toList) = false := by rw [Bool.eq_false_iff]; intro z; exact hsf ((Lib.bytes_beq_iff _ _).1 z)
                  have HRt := Lib.hid (ratio_any 1 (pa : Int) wr (HZw.out.below (HBr.out.trans (HB.out.mono HBr.out.size))) (by decide) (by decide) (by omega) (by omega))
                  unfold rrV at HRt
                  generalize ratioF 1 (pa : Int) = rr at *
                  obtain ⟨rn, rd, re⟩ := rr
                  simp only at HRt HR
                  clear hsf
                  go_wp2_with fail
                  refine HRt.out.mono ?_
                  rintro e w8 ⟨rfl, hb8⟩
                  have HB8 := Lib.hid (HB.out.trans (hb8.mono HB.out.size))
                  have HO8 := Lib.hid ((own_below HO.out hb8).alloc (.cells #[.int .i64 rn, .int .i64 rd] 32))
                  have HB9 := Lib.hid (HB8.out.alloc HB8.out.size (.cells #[.int .i64 rn, .int .i64 rd] 32))
                  have y8 := Cel.new w8 32 #[.int .i64 rn, .int .i64 rd]
                  have r0 := y8.cell 0 _ rfl
                  have r1 := y8.cell 1 _ rfl
                  clear hb8 y8 HRt d1
                  go_upto_region 27 with fail
                  generalize w8.alloc (.cells #[.int .i64 rn, .int .i64 rd] 32) = w9 at *
                  have HO9 := Lib.hid (HO8.out.alloc (.cells #[.string s, .int .i64 rn, .int .i64 rd] 34))
                  have HBa := Lib.hid (HB9.out.alloc HB9.out.size (.cells #[.string s, .int .i64 rn, .int .i64 rd] 34))
                  have HSa := Lib.hid (Sl.new (s := 3) w9 34 1 1 #[.string s, .int .i64 rn, .int .i64 rd] rfl (Nat.le_refl _) (by decide))
                  go_wp2_with (at_builtin; refine appShare _ _ rfl rfl rfl rfl HO9.out HSa.out (by intro u hu; simp at hu; rcases hu with rfl | rfl | rfl <;> rfl) (N := k + 1) (by show k * 3 + 3 = (k + 1) * 3; omega) (by omega) HBa.out.size ?_; intro A9 c9 w10 hap)
                  have HB10 := Lib.hid (below_of_own hap.grown HO9.out HBa.out (Nat.le_refl _))
                  have HO10 := Lib.hid hap.own
                  clear hap r0 r1
                  go_wp2
                  go_roundw
                  case rel => exact ⟨k + 1, by go_num, by omega, by rw [HSt.out, HR.out]; exact HO10.out, HB10.out⟩
                  case measure => simp [intOf]; omega
              · have HK := Lib.hid (show ch.take k = ch from List.take_of_length_le (by omega))
                rw [HK.out] at HO
                have HF := Lib.hid (HBz.out.trans (HB.out.mono HBz.out.size))
                go_wp2
                go_ret2
                rw [HQe.out]
                exact ⟨HF.out, _, rfl, Sl.of_own HO.out⟩
end

section
open Go Go.RowKit Go.Shelf

theorem namedF_cases (ps : List ByteArray) (fs : List Fa) (ns : List ByteArray) : (namedF ps fs ns = 3 ∨ namedF ps fs ns = 100 ∨ namedF ps fs ns = 2) ∨ (namedF ps fs ns = 0 ∧ checkF ps fs = 0 ∧ ps.length ≤ 24 ∧ fs.length ≤ 48 ∧ AllAbout ps fs ∧ ∀ s ∈ ns, s ∈ ps) := by
  unfold namedF
  rcases checkF_cases ps fs with hc | hc | ⟨hc, hp, hfew, _, hf⟩
  · rw [hc]; exact .inl (.inl rfl)
  · rw [hc]; exact .inl (.inr (.inl rfl))
  · rw [hc, if_neg (fun q => q rfl)]
    unfold allN
    by_cases h : ns.all (memB ps) = true
    · rw [if_pos h]
      exact .inr ⟨rfl, rfl, hp, hfew, hf, fun s hs => memB_iff.1 (List.all_eq_true.1 h s hs)⟩
    · rw [if_neg h]
      exact .inl (.inr (.inr rfl))
theorem heirs_any (A : Option Addr) (n c : Nat) (F : Option Addr) (m d : Nat) (ps : List ByteArray) (fs : List Fa) (a : ByteArray) (w : World) (h : NetC w A n c F m d ps fs) (hz : Zw w) (hs : Short ps) :
    Calls Tryz.prog 12 #[.agg #[.slice A n c, .slice F m d], .string a] w (HeirsP (heirsV ps fs a) w) := by
  rcases namedF_cases ps fs [a] with hr | ⟨hc, _, hp, hfew, hf, _⟩
  · have hne : namedF ps fs [a] ≠ 0 := by omega
    have : heirsV ps fs a = ([], namedF ps fs [a]) := by unfold heirsV; rw [if_pos hne]
    rw [this]
    exact heirs_bad (namedF ps fs [a]) hr A n c F m d ps fs a w h hs rfl
  · exact heirs_good A n c F m d ps fs a w h hz hs hc hf hp hfew
end
end Go.Proofs.YtdmcopjbckelmaaGreatDoor
