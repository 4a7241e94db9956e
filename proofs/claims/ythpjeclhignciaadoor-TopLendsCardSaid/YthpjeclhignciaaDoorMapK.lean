/- A map whose keys are structs of comparable fields, made by the call: look-up and store under a new key. Conditions: those stated. -/
import Derived.Test.YthpjeclhignciaaDoorTA
namespace Go.Proofs.YthpjeclhignciaaDoor
open Go Go.RowKit Go.Shelf

/-- What is asked of a key's type: how its keys lie in values, and that the model compares and admits them. -/
structure KeyS {κ : Type} [DecidableEq κ] (P : Program) (kt : TypeId) (enc : κ → Value) : Prop where
  kind : ∃ fs, P.underlying kt = some (.struct fs)
  eq : ∀ a b w, (Op.equal kt (enc a) (enc b)).run P w = .ok (decide (a = b)) w
  ck : ∀ em a w, (Instr.checkKey em 10000 kt (enc a)).run P w = .ok () w
  agg : ∀ a, ∃ cs, enc a = .agg cs
section
variable {κ : Type}
def getK [DecidableEq κ] (m : List (κ × Value)) (k : κ) : Option Value := (m.find? (fun p => decide (k = p.1))).map (·.2)
theorem getK_append_new [DecidableEq κ] (m : List (κ × Value)) (k k' : κ) (v : Value) (h : getK m k' = none) : getK (m ++ [(k', v)]) k = if k = k' then some v else getK m k := by
  unfold getK at *
  rw [List.find?_append]
  by_cases e : k = k'
  · subst e
    have : m.find? (fun p => decide (k = p.1)) = none := by simpa using h
    simp [this]
  · cases hf : m.find? (fun p => decide (k = p.1)) <;> simp [e]
/-- Block b is a map that holds m. -/
def MapK (enc : κ → Value) (w : World) (b : Nat) (m : List (κ × Value)) : Prop :=
  ∃ es c, w.heap[b]? = some (.map es c) ∧ es.toList.map (fun e => (e.key, e.val)) = m.map (fun p => (enc p.1, p.2))
variable {enc : κ → Value}
theorem MapK.lt {w : World} {b : Nat} {m : List (κ × Value)} (h : MapK enc w b m) : b < w.heap.size := by
  obtain ⟨es, c, h, _⟩ := h; exact (Array.getElem?_eq_some_iff.1 h).1
theorem MapK.same {w w' : World} {b : Nat} {m : List (κ × Value)} (h : MapK enc w b m) (e : w'.heap[b]? = w.heap[b]?) : MapK enc w' b m := by
  obtain ⟨es, c, h, h'⟩ := h; exact ⟨es, c, e.trans h, h'⟩
theorem MapK.below {w w' : World} {b n : Nat} {m : List (κ × Value)} (h : MapK enc w b m) (hn : b < n) (hb : Below n w w') : MapK enc w' b m := h.same (hb.block _ hn)
theorem MapK.kept {w w' : World} {row : Option Nat} {b : Nat} {m : List (κ × Value)} (h : MapK enc w b m) (hg : w.grownBy w' row) (hne : some b ≠ row) : MapK enc w' b m := h.same (hg.block b h.lt hne)
theorem MapK.alloc {w : World} {b : Nat} {m : List (κ × Value)} (h : MapK enc w b m) (o : Obj) : MapK enc (w.alloc o) b m := h.kept (World.grownBy_alloc w o none) (by simp)
theorem MapK.new (w : World) : MapK enc (w.alloc (.map #[] 0)) w.heap.size [] := ⟨#[], 0, World.alloc_heap_new w _, rfl⟩
theorem findAsking_run [DecidableEq κ] {P : Program} {kt : TypeId} (hK : KeyS P kt enc) (k : κ) (w : World) (m : List (κ × Value)) : ∀ (es : List MapEntry) (i : Nat), es.map (fun e => (e.key, e.val)) = m.map (fun p => (enc p.1, p.2)) →
    ∃ o, (Instr.findAsking kt (enc k) es i).run P w = .ok o w ∧ o.map (·.2) = getK m k := by
  induction m with
  | nil => intro es i h; have : es = [] := by simpa using h
           subst this; exact ⟨none, rfl, rfl⟩
  | cons p m ih =>
    intro es i h
    cases es with
    | nil => simp at h
    | cons e es =>
      simp only [List.map_cons, List.cons.injEq, Prod.mk.injEq] at h
      obtain ⟨⟨h1, h2⟩, h3⟩ := h
      have he := hK.eq k p.1 w
      by_cases e' : k = p.1
      · refine ⟨some (i, e.val), ?_, by simp [getK, h2, e']⟩
        rw [decide_eq_true e'] at he
        unfold Instr.findAsking
        rw [h1, Sem.run_bind, he]
        rfl
      · obtain ⟨o, ho, ho'⟩ := ih es (i + 1) h3
        rw [decide_eq_false e'] at he
        refine ⟨o, ?_, ?_⟩
        · unfold Instr.findAsking
          rw [h1, Sem.run_bind, he]
          exact ho
        · rw [ho']; unfold getK; rw [List.find?_cons, decide_eq_false e']
theorem findKey_run [DecidableEq κ] {P : Program} {kt : TypeId} (hK : KeyS P kt enc) (k : κ) (w : World) (m : List (κ × Value)) (es : List MapEntry) (h : es.map (fun e => (e.key, e.val)) = m.map (fun p => (enc p.1, p.2))) :
    ∃ o, (Instr.findKey kt (enc k) es).run P w = .ok o w ∧ o.map (·.2) = getK m k := by
  obtain ⟨fs, hu⟩ := hK.kind
  obtain ⟨o, ho, ho'⟩ := findAsking_run hK k w m es 0 h
  cases es with
  | nil =>
    have : m = [] := by simpa using h.symm
    subst this
    exact ⟨none, by unfold Instr.findKey; rw [Sem.run_bind, run_underlying hu]; rfl, rfl⟩
  | cons e es =>
    refine ⟨o, ?_, ho'⟩
    unfold Instr.findKey
    rw [Sem.run_bind, run_underlying hu]
    exact ho
theorem MapK.lookup [DecidableEq κ] {P : Program} {w : World} {b : Nat} {m : List (κ × Value)} (h : MapK enc w b m) {t kt et : TypeId} (ht : P.underlying t = some (.map kt et)) (hK : KeyS P kt enc) {z : Value} (hz : (zeroValue et).run P w = .ok z w) (k : κ) (c : Bool) :
    (Instr.lookup t (.map (some b)) (enc k) c).run P w = .ok (match getK m k with | some v => if c then .tuple #[v, .bool true] else v | none => if c then .tuple #[z, .bool false] else z) w := by
  obtain ⟨es, ck, hb, he⟩ := h
  obtain ⟨o, ho, ho'⟩ := findKey_run hK k w m es.toList he
  have hck := fun em => hK.ck em k w
  rw [← ho']
  cases o with
  | none => simp [Instr.lookup, run_underlying ht, MapKept.run_getObj_map hb, hck, ho, hz, Result.andThen]
  | some x => simp [Instr.lookup, run_underlying ht, MapKept.run_getObj_map hb, hck, ho, Result.andThen]
/-- The world behind a store under a new key. -/
def mapPutV (w : World) (b : Nat) (k : Value) (v : Value) : World :=
  match w.heap[b]? with
  | some (.map es c) => ChangeMaps.setBlock w b (.map (es.push { key := k, val := v, born := c }) (c + 1))
  | _ => w
theorem MapK.update [DecidableEq κ] {P : Program} {w : World} {b : Nat} {m : List (κ × Value)} (h : MapK enc w b m) {t kt et : TypeId} (ht : P.underlying t = some (.map kt et)) (hK : KeyS P kt enc) (k : κ) (v : Value) (hnew : getK m k = none) :
    (Instr.mapUpdate t (.map (some b)) (enc k) v).run P w = .ok () (mapPutV w b (enc k) v) := by
  obtain ⟨es, ck, hb, he⟩ := h
  obtain ⟨o, ho, ho'⟩ := findKey_run hK k w m es.toList he
  have hck := fun em => hK.ck em k w
  have : o = none := by rw [hnew] at ho'; simpa using ho'
  subst this
  simp [Instr.mapUpdate, run_underlying ht, MapKept.run_getObj_map hb, hck, ho, Result.andThen, mapPutV, hb, MapKept.run_setObj_map _ hb, ChangeMaps.setBlock]
theorem MapK.put_grown {w : World} {b : Nat} {m : List (κ × Value)} (h : MapK enc w b m) (k : Value) (v : Value) : w.grownBy (mapPutV w b k v) (some b) := by
  obtain ⟨es, ck, hb, he⟩ := h
  simp only [mapPutV, hb]
  exact ⟨rfl, rfl, rfl, by simp [ChangeMaps.setBlock], fun i _ hi => ChangeMaps.heap_setBlock_other hb _ (fun e => hi (by rw [e]))⟩
theorem MapK.put {w : World} {b : Nat} {m : List (κ × Value)} (h : MapK enc w b m) (k : κ) (v : Value) : MapK enc (mapPutV w b (enc k) v) b (m ++ [(k, v)]) := by
  obtain ⟨es, ck, hb, he⟩ := h
  simp only [mapPutV, hb]
  exact ⟨_, _, ChangeMaps.heap_setBlock_same hb _, by simp [he]⟩
end
end Go.Proofs.YthpjeclhignciaaDoor
