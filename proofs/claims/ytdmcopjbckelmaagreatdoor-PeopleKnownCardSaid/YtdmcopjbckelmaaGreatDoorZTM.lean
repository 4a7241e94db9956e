/- A map whose keys are structs of comparable fields, made by the call: look-up and store under a new key. Conditions: those stated. Walks: Term, the program's and the reference's. No condition. -/
import Derived.Test.YtdmcopjbckelmaaGreatDoorZE
import Derived.Test.YtdmcopjbckelmaaGreatDoorZD
namespace Go.Proofs.YtdmcopjbckelmaaGreatDoor
section
open Go Go.RowKit Go.Shelf

/-- What is asked of a key's type: how its keys lie in values, and that the model compares and admits them. -/
structure KeyS {κ : Type} [DecidableEq κ] (P : Program) (kt : TypeId) (enc : κ → Value) : Prop where
  kind : ∃ fs, P.underlying kt = some (.struct fs)
  eq : ∀ a b w, (Op.equal kt (enc a) (enc b)).run P w = .ok (decide (a = b)) w
  ck : ∀ em a w, (Instr.checkKey em 10000 kt (enc a)).run P w = .ok () w
  agg : ∀ a, ∃ cs, enc a = .agg cs
section
variable {κ : Type}
def getK [DecidableEq κ] (m : List (κ × Value)) (k : κ) : Option Value := (m.find? (fun p => decide (k = p.1))).map (·.2)
theorem getK_append_new [DecidableEq κ] (m : List (κ × Value)) (k k' : κ) (v : Value) (h : getK m k' = none) : getK (m ++ [(k', v)]) k = if k = k' then some v else getK m k := by
  unfold getK at *
  rw [List.find?_append]
  by_cases e : k = k'
  · subst e
    have : m.find? (fun p => decide (k = p.1)) = none := by simpa using h
    simp [this]
  · cases hf : m.find? (fun p => decide (k = p.1)) <;> simp [e]
/-- Block b is a map that holds m. -/
def MapK (enc : κ → Value) (w : World) (b : Nat) (m : List (κ × Value)) : Prop :=
  ∃ es c, w.heap[b]? = some (.map es c) ∧ es.toList.map (fun e => (e.key, e.val)) = m.map (fun p => (enc p.1, p.2))
variable {enc : κ → Value}
theorem MapK.lt {w : World} {b : Nat} {m : List (κ × Value)} (h : MapK enc w b m) : b < w.heap.size := by
  obtain ⟨es, c, h, _⟩ := h; exact (Array.getElem?_eq_some_iff.1 h).1
theorem MapK.same {w w' : World} {b : Nat} {m : List (κ × Value)} (h : MapK enc w b m) (e : w'.heap[b]? = w.heap[b]?) : MapK enc w' b m := by
  obtain ⟨es, c, h, h'⟩ := h; exact ⟨es, c, e.trans h, h'⟩
theorem MapK.below {w w' : World} {b n : Nat} {m : List (κ × Value)} (h : MapK enc w b m) (hn : b < n) (hb : Below n w w') : MapK enc w' b m := h.same (hb.block _ hn)
theorem MapK.kept {w w' : World} {row : Option Nat} {b : Nat} {m : List (κ × Value)} (h : MapK enc w b m) (hg : w.grownBy w' row) (hne : some b ≠ row) : MapK enc w' b m := h.same (hg.block b h.lt hne)
theorem MapK.alloc {w : World} {b : Nat} {m : List (κ × Value)} (h : MapK enc w b m) (o : Obj) : MapK enc (w.alloc o) b m := h.kept (World.grownBy_alloc w o none) (by simp)
theorem MapK.new (w : World) : MapK enc (w.alloc (.map #[] 0)) w.heap.size [] := ⟨#[], 0, World.alloc_heap_new w _, rfl⟩
theorem findAsking_run [DecidableEq κ] {P : Program} {kt : TypeId} (hK : KeyS P kt enc) (k : κ) (w : World) (m : List (κ × Value)) : ∀ (es : List MapEntry) (i : Nat), es.map (fun e => (e.key, e.val)) = m.map (fun p => (enc p.1, p.2)) →
    ∃ o, (Instr.findAsking kt (enc k) es i).run P w = .ok o w ∧ o.map (·.2) = getK m k := by
  induction m with
  | nil => intro es i h; have : es = [] := by simpa using h
           subst this; exact ⟨none, rfl, rfl⟩
  | cons p m ih =>
    intro es i h
    cases es with
    | nil => simp at h
    | cons e es =>
      simp only [List.map_cons, List.cons.injEq, Prod.mk.injEq] at h
      obtain ⟨⟨h1, h2⟩, h3⟩ := h
      have he := hK.eq k p.1 w
      by_cases e' : k = p.1
      · refine ⟨some (i, e.val), ?_, by simp [getK, h2, e']⟩
        rw [decide_eq_true e'] at he
        unfold Instr.findAsking
        rw [h1, Sem.run_bind, he]
        rfl
      · obtain ⟨o, ho, ho'⟩ := ih es (i + 1) h3
        rw [decide_eq_false e'] at he
        refine ⟨o, ?_, ?_⟩
        · unfold Instr.findAsking
          rw [h1, Sem.run_bind, he]
          exact ho
        · rw [ho']; unfold getK; rw [List.find?_cons, decide_eq_false e']
theorem findKey_run [DecidableEq κ] {P : Program} {kt : TypeId} (hK : KeyS P kt enc) (k : κ) (w : World) (m : List (κ × Value)) (es : List MapEntry) (h : es.map (fun e => (e.key, e.val)) = m.map (fun p => (enc p.1, p.2))) :
    ∃ o, (Instr.findKey kt (enc k) es).run P w = .ok o w ∧ o.map (·.2) = getK m k := by
  obtain ⟨fs, hu⟩ := hK.kind
  obtain ⟨o, ho, ho'⟩ := findAsking_run hK k w m es 0 h
  cases es with
  | nil =>
    have : m = [] := by simpa using h.symm
    subst this
    exact ⟨none, by unfold Instr.findKey; rw [Sem.run_bind, run_underlying hu]; rfl, rfl⟩
  | cons e es =>
    refine ⟨o, ?_, ho'⟩
    unfold Instr.findKey
    rw [Sem.run_bind, run_underlying hu]
    exact ho
theorem MapK.lookup [DecidableEq κ] {P : Program} {w : World} {b : Nat} {m : List (κ × Value)} (h : MapK enc w b m) {t kt et : TypeId} (ht : P.underlying t = some (.map kt et)) (hK : KeyS P kt enc) {z : Value} (hz : (zeroValue et).run P w = .ok z w) (k : κ) (c : Bool) :
    (Instr.lookup t (.map (some b)) (enc k) c).run P w = .ok (match getK m k with | some v => if c then .tuple #[v, .bool true] else v | none => if c then .tuple #[z, .bool false] else z) w := by
  obtain ⟨es, ck, hb, he⟩ := h
  obtain ⟨o, ho, ho'⟩ := findKey_run hK k w m es.toList he
  have hck := fun em => hK.ck em k w
  rw [← ho']
  cases o with
  | none => simp [Instr.lookup, run_underlying ht, MapKept.run_getObj_map hb, hck, ho, hz, Result.andThen]
  | some x => simp [Instr.lookup, run_underlying ht, MapKept.run_getObj_map hb, hck, ho, Result.andThen]
/-- The world behind a store under a new key. -/
def mapPutV (w : World) (b : Nat) (k : Value) (v : Value) : World :=
  match w.heap[b]? with
  | some (.map es c) => ChangeMaps.setBlock w b (.map (es.push { key := k, val := v, born := c }) (c + 1))
  | _ => w
theorem MapK.update [DecidableEq κ] {P : Program} {w : World} {b : Nat} {m : List (κ × Value)} (h : MapK enc w b m) {t kt et : TypeId} (ht : P.underlying t = some (.map kt et)) (hK : KeyS P kt enc) (k : κ) (v : Value) (hnew : getK m k = none) :
    (Instr.mapUpdate t (.map (some b)) (enc k) v).run P w = .ok () (mapPutV w b (enc k) v) := by
  obtain ⟨es, ck, hb, he⟩ := h
  obtain ⟨o, ho, ho'⟩ := findKey_run hK k w m es.toList he
  have hck := fun em => hK.ck em k w
  have : o = none := by rw [hnew] at ho'; simpa using ho'
  subst this
  simp [Instr.mapUpdate, run_underlying ht, MapKept.run_getObj_map hb, hck, ho, Result.andThen, mapPutV, hb, MapKept.run_setObj_map _ hb, ChangeMaps.setBlock]
theorem MapK.put_grown {w : World} {b : Nat} {m : List (κ × Value)} (h : MapK enc w b m) (k : Value) (v : Value) : w.grownBy (mapPutV w b k v) (some b) := by
  obtain ⟨es, ck, hb, he⟩ := h
  simp only [mapPutV, hb]
  exact ⟨rfl, rfl, rfl, by simp [ChangeMaps.setBlock], fun i _ hi => ChangeMaps.heap_setBlock_other hb _ (fun e => hi (by rw [e]))⟩
theorem MapK.put {w : World} {b : Nat} {m : List (κ × Value)} (h : MapK enc w b m) (k : κ) (v : Value) : MapK enc (mapPutV w b (enc k) v) b (m ++ [(k, v)]) := by
  obtain ⟨es, ck, hb, he⟩ := h
  simp only [mapPutV, hb]
  exact ⟨_, _, ChangeMaps.heap_setBlock_same hb _, by simp [he]⟩
end
end

section
open Go Go.RowKit Go.Shelf
attribute [local go_sem] Oper.semAt_some

def stK (p : Int × Int) : Value := .agg #[.int .i64 p.1, .int .i64 p.2]
theorem st_keyS : KeyS Tryz.prog 128 stK where
  kind := ⟨_, Tryz.underlying128⟩
  eq a b w := by
    obtain ⟨a1, a2⟩ := a
    obtain ⟨b1, b2⟩ := b
    unfold Op.equal
    rw [show Op.maxDepth = 9999 + 1 from rfl]
    unfold Op.equalIn
    simp only [stK]
    simp [go_sem]
    by_cases h1 : a1 = b1 <;> by_cases h2 : a2 = b2 <;> simp [h1, h2]
  ck em a w := by
    have h1 : ∀ x : Int, (Instr.checkKey em 9999 3 (.int .i64 x)).run Tryz.prog w = .ok () w := fun x => by
      rw [show (9999 : Nat) = 9998 + 1 from rfl]; unfold Instr.checkKey; simp [go_sem]
    unfold Instr.checkKey
    simp only [stK]
    simp [go_sem, h1, Result.andThen]
  agg a := ⟨_, rfl⟩
def tSelf : ByteArray := ⟨#[115, 101, 108, 102]⟩
def tParent : ByteArray := ⟨#[112, 97, 114, 101, 110, 116]⟩
def tGrandp : ByteArray := ⟨#[103, 114, 97, 110, 100, 112, 97, 114, 101, 110, 116]⟩
def tChild : ByteArray := ⟨#[99, 104, 105, 108, 100]⟩
def tGrandc : ByteArray := ⟨#[103, 114, 97, 110, 100, 99, 104, 105, 108, 100]⟩
def tSibling : ByteArray := ⟨#[115, 105, 98, 108, 105, 110, 103]⟩
def tUncle : ByteArray := ⟨#[117, 110, 99, 108, 101]⟩
def tNephew : ByteArray := ⟨#[110, 101, 112, 104, 101, 119]⟩
def tCousin : ByteArray := ⟨#[99, 111, 117, 115, 105, 110]⟩
def tAncestor : ByteArray := ⟨#[97, 110, 99, 101, 115, 116, 111, 114]⟩
def tDescendant : ByteArray := ⟨#[100, 101, 115, 99, 101, 110, 100, 97, 110, 116]⟩
def tKin : ByteArray := ⟨#[107, 105, 110]⟩
/-- The terms of few steps. -/
def termL : List ((Int × Int) × ByteArray) := [((0, 0), tSelf), ((0, 1), tParent), ((0, 2), tGrandp), ((1, 0), tChild), ((2, 0), tGrandc), ((1, 1), tSibling), ((1, 2), tUncle), ((2, 1), tNephew), ((2, 2), tCousin)]
def termM : List ((Int × Int) × Value) := termL.map fun p => (p.1, .string p.2)
def termS (up dn : Int) : Option ByteArray := (termL.find? fun p => decide ((up, dn) = p.1)).map (·.2)
/-- The term of so many steps up and down. -/
def termF (up dn : Int) : ByteArray :=
  if up < 0 ∨ dn < 0 then ⟨#[]⟩ else match termS up dn with
    | some s => s
    | none => if up = 0 then tAncestor else if dn = 0 then tDescendant else tKin
theorem getK_term (up dn : Int) : getK termM (up, dn) = (termS up dn).map Value.string := by
  unfold getK termM termS
  rw [List.find?_map, Option.map_map, Option.map_map]
  rfl
theorem termS_none {up dn : Int} (h : ¬ (0 ≤ up ∧ up ≤ 2 ∧ 0 ≤ dn ∧ dn ≤ 2)) : termS up dn = none := by
  unfold termS termL
  simp only [List.find?_cons, Prod.mk.injEq]
  repeat' split
  all_goals first | rfl | (simp only [decide_eq_true_eq] at *; omega)
theorem termS_some {up dn : Int} (h : 0 ≤ up ∧ up ≤ 2 ∧ 0 ≤ dn ∧ dn ≤ 2) : ∃ s, termS up dn = some s := by
  have h1 : up = 0 ∨ up = 1 ∨ up = 2 := by omega
  have h2 : dn = 0 ∨ dn = 1 ∨ dn = 2 := by omega
  rcases h1 with rfl | rfl | rfl <;> rcases h2 with rfl | rfl | rfl <;> exact ⟨_, rfl⟩
/-- The operations of the map's literal. -/
def regionOps : Code → Array Oper
  | .seq (.region _ _ _) (.seq (.region _ ops _) _) => ops
  | _ => #[]
def funcOps (f : Func) : Array Oper := match f.body with
  | some c => regionOps c
  | none => #[]
def lst (d : Nat → Bool) : Array Bool := #[true, true, d 0, true, d 1, true, d 2, true, d 3, true, d 4, true, d 5, true, d 6, true, d 7, true, d 8, false, false]
def tKey (i : Nat) : Int × Int := (termL.map (·.1)).getD i (0, 0)
def tVal (i : Nat) : Value := (termM.map (·.2)).getD i undef
theorem tKey_inj : ∀ i, i < 9 → ∀ j, j < 9 → tKey i = tKey j → i = j := by decide +kernel
/-- The map holds just the entries that have come. -/
def TInv (b : Nat) (w : World) (d : Nat → Bool) (w' : World) : Prop :=
  ∃ m, MapK stK w' b m ∧ Below w.heap.size w w' ∧ ∀ p, p ∈ m ↔ ∃ i, i < 9 ∧ d i = true ∧ p = (tKey i, tVal i)
theorem getK_none {m : List ((Int × Int) × Value)} {k : Int × Int} (h : ∀ p ∈ m, k ≠ p.1) : getK m k = none := by
  unfold getK
  rw [Option.map_eq_none_iff, List.find?_eq_none]
  intro p hp
  simpa using h p hp
theorem getK_some {m : List ((Int × Int) × Value)} {k : Int × Int} {v : Value} (h : (k, v) ∈ m) (hu : ∀ p ∈ m, k = p.1 → p.2 = v) : getK m k = some v := by
  unfold getK
  cases hf : m.find? (fun p => decide (k = p.1)) with
  | none =>
    rw [List.find?_eq_none] at hf
    have := hf _ h
    simp at this
  | some p =>
    have h1 := List.mem_of_find?_eq_some hf
    have h2 := List.find?_some hf
    rw [decide_eq_true_eq] at h2
    simp [hu p h1 h2]
theorem termM_mem (p : (Int × Int) × Value) : p ∈ termM ↔ ∃ i, i < 9 ∧ p = (tKey i, tVal i) := by
  have e : termM = (List.range 9).map fun i => (tKey i, tVal i) := rfl
  rw [e, List.mem_map]
  simp only [List.mem_range]
  exact ⟨fun ⟨i, h1, h2⟩ => ⟨i, h1, h2.symm⟩, fun ⟨i, h1, h2⟩ => ⟨i, h1, h2.symm⟩⟩
theorem TInv.all {b : Nat} {w : World} {d : Nat → Bool} {w' : World} (h : TInv b w d w') (hd : ∀ i, i < 9 → d i = true) : ∃ m, MapK stK w' b m ∧ Below w.heap.size w w' ∧ ∀ k, getK m k = getK termM k := by
  obtain ⟨m, h1, h2, h3⟩ := h
  refine ⟨m, h1, h2, fun k => ?_⟩
  have key : ∀ p ∈ termM, ∀ q ∈ termM, p.1 = q.1 → p.2 = q.2 := by
    intro p hp q hq e
    obtain ⟨i, hi, rfl⟩ := (termM_mem p).1 hp
    obtain ⟨j, hj, rfl⟩ := (termM_mem q).1 hq
    rw [tKey_inj i hi j hj e]
  have hm : ∀ p, p ∈ m ↔ p ∈ termM := fun p => by
    rw [h3, termM_mem]
    exact ⟨fun ⟨i, a, _, c⟩ => ⟨i, a, c⟩, fun ⟨i, a, c⟩ => ⟨i, a, hd i a, c⟩⟩
  by_cases hk : ∃ p ∈ termM, k = p.1
  · obtain ⟨⟨k', v⟩, hp, rfl⟩ := hk
    rw [getK_some ((hm _).2 hp) (fun q hq e => (key _ hp q ((hm q).1 hq) e).symm), getK_some hp (fun q hq e => (key _ hp q hq e).symm)]
  · rw [getK_none (fun p hp e => hk ⟨p, (hm p).1 hp, e⟩), getK_none (fun p hp e => hk ⟨p, hp, e⟩)]
theorem TInv.put {b : Nat} {w : World} {d : Nat → Bool} {w' : World} (h : TInv b w d w') (hb : w.heap.size ≤ b) {k : Nat} (hk : k < 9) (hd : d k = false) :
    (Instr.mapUpdate 129 (.map (some b)) (stK (tKey k)) (tVal k)).run Tryz.prog w' = .ok () (mapPutV w' b (stK (tKey k)) (tVal k)) ∧ TInv b w (fun j => if j = k then true else d j) (mapPutV w' b (stK (tKey k)) (tVal k)) ∧ Below w.heap.size w (mapPutV w' b (stK (tKey k)) (tVal k)) := by
  obtain ⟨m, h1, h2, h3⟩ := h
  have hn : getK m (tKey k) = none := getK_none fun p hp e => by
    obtain ⟨i, hi, hdi, rfl⟩ := (h3 p).1 hp
    rw [tKey_inj k hk i hi e, hdi] at hd
    cases hd
  have hB : Below w.heap.size w (mapPutV w' b (stK (tKey k)) (tVal k)) := by
    have hg := h1.put_grown (stK (tKey k)) (tVal k)
    exact ⟨hg.os.trans h2.os, hg.tape.trans h2.tape, hg.output.trans h2.output, Nat.le_trans h2.size hg.size, fun i hi => (hg.block i (Nat.lt_of_lt_of_le hi h2.size) (fun e => by cases e; omega)).trans (h2.block i hi)⟩
  refine ⟨h1.update (P := Tryz.prog) (t := 129) Tryz.underlying129 st_keyS (tKey k) (tVal k) hn, ⟨m ++ [(tKey k, tVal k)], h1.put (tKey k) (tVal k), hB, fun p => ?_⟩, hB⟩
  rw [List.mem_append, List.mem_singleton, h3]
  constructor
  · rintro (⟨i, hi, hdi, rfl⟩ | rfl)
    · exact ⟨i, hi, by simp only [hdi]; split <;> rfl, rfl⟩
    · exact ⟨k, hk, by simp, rfl⟩
  · rintro ⟨i, hi, hdi, rfl⟩
    by_cases e : i = k
    · subst e; exact .inr rfl
    · exact .inl ⟨i, hi, by simpa [e] using hdi, rfl⟩
def readyOK (ops : Array Oper) (b0 b1 b2 b3 b4 b5 b6 b7 b8 : Bool) : Bool :=
  (b0 && b1 && b2 && b3 && b4 && b5 && b6 && b7 && b8) || (!(Region.ready .any ops #[true, true, b0, true, b1, true, b2, true, b3, true, b4, true, b5, true, b6, true, b7, true, b8, false, false]).isEmpty && (Region.ready .any ops #[true, true, b0, true, b1, true, b2, true, b3, true, b4, true, b5, true, b6, true, b7, true, b8, false, false]).all fun i =>
    i == 2 && !b0 || i == 4 && !b1 || i == 6 && !b2 || i == 8 && !b3 || i == 10 && !b4 || i == 12 && !b5 || i == 14 && !b6 || i == 16 && !b7 || i == 18 && !b8)
set_option maxRecDepth 100000 in
theorem term_readyB : ∀ b0 b1 b2 b3 b4 b5 b6 b7 b8 : Bool, readyOK (funcOps Tryz.f53) b0 b1 b2 b3 b4 b5 b6 b7 b8 = true := by decide +kernel
theorem term_ready9 (b0 b1 b2 b3 b4 b5 b6 b7 b8 : Bool) (h : (b0 && b1 && b2 && b3 && b4 && b5 && b6 && b7 && b8) = false) :
    Region.ready .any (funcOps Tryz.f53) #[true, true, b0, true, b1, true, b2, true, b3, true, b4, true, b5, true, b6, true, b7, true, b8, false, false] ≠ [] ∧ ∀ i ∈ Region.ready .any (funcOps Tryz.f53) #[true, true, b0, true, b1, true, b2, true, b3, true, b4, true, b5, true, b6, true, b7, true, b8, false, false],
      i = 2 ∧ b0 = false ∨ i = 4 ∧ b1 = false ∨ i = 6 ∧ b2 = false ∨ i = 8 ∧ b3 = false ∨ i = 10 ∧ b4 = false ∨ i = 12 ∧ b5 = false ∨ i = 14 ∧ b6 = false ∨ i = 16 ∧ b7 = false ∨ i = 18 ∧ b8 = false := by
  have := term_readyB b0 b1 b2 b3 b4 b5 b6 b7 b8
  unfold readyOK at this
  rw [h, Bool.false_or, Bool.and_eq_true] at this
  obtain ⟨h1, h2⟩ := this
  refine ⟨(fun e => by rw [e] at h1; cases h1), fun i hi => ?_⟩
  have := List.all_eq_true.1 h2 i hi
  simpa [or_assoc] using this
def termAct (up dn : Int) (b : Nat) : Act := { tmps := #[.int .i64 up, .int .i64 dn, undef, undef, .string ⟨#[]⟩, undef, undef, undef, .map (some b), .agg #[.int .i64 0, .int .i64 0], .agg #[.int .i64 0, .int .i64 1], .agg #[.int .i64 0, .int .i64 2], .agg #[.int .i64 1, .int .i64 0], .agg #[.int .i64 2, .int .i64 0], .agg #[.int .i64 1, .int .i64 1], .agg #[.int .i64 1, .int .i64 2], .agg #[.int .i64 2, .int .i64 1], .agg #[.int .i64 2, .int .i64 2], undef, undef, undef, undef, undef, undef, undef, undef, undef, undef, undef, undef, undef, undef, undef, undef, undef, undef, undef, undef, undef, undef, undef, undef, undef], defers := [] }
set_option maxRecDepth 100000 in
set_option maxHeartbeats 1000000 in
theorem term_bag (up dn : Int) (b : Nat) (w : World) (hb : w.heap.size ≤ b) (Q : Exit → Act → World → Prop)
    (hend : ∀ d w', (∀ i, i < 9 → d i = true) → TInv b w d w' → wpAnyH Tryz.prog .any (funcOps Tryz.f53) Q (fun w' => Below w.heap.size w w') 2 (lst d) (termAct up dn b) w') :
    ∀ (n : Nat) (d : Nat → Bool) (w' : World), (List.range 9).countP (fun i => !d i) = n → TInv b w d w' → wpAnyH Tryz.prog .any (funcOps Tryz.f53) Q (fun w' => Below w.heap.size w w') (n + 2) (lst d) (termAct up dn b) w' := by
  intro n
  induction n with
  | zero =>
    intro d w' hn hI
    refine hend d w' (fun i hi => ?_) hI
    rw [List.countP_eq_zero] at hn
    simpa using hn i (List.mem_range.2 hi)
  | succ n ih =>
    intro d w' hn hI
    have hall : (d 0 && d 1 && d 2 && d 3 && d 4 && d 5 && d 6 && d 7 && d 8) = false := by
      rw [Bool.eq_false_iff]
      intro h
      simp only [Bool.and_eq_true] at h
      obtain ⟨⟨⟨⟨⟨⟨⟨⟨h0, h1⟩, h2⟩, h3⟩, h4⟩, h5⟩, h6⟩, h7⟩, h8⟩ := h
      simp [List.range_succ, h0, h1, h2, h3, h4, h5, h6, h7, h8] at hn
    obtain ⟨hne, hr⟩ := term_ready9 _ _ _ _ _ _ _ _ _ hall
    have step : ∀ k, k < 9 → d k = false → ∀ K' : Act → World → Prop, (∀ a w1, (Below w.heap.size w w1 ∧ wpAnyH Tryz.prog .any (funcOps Tryz.f53) Q (fun w' => Below w.heap.size w w') (n + 2) (lst (fun j => if j = k then true else d j)) a w1) → K' a w1) → K' (termAct up dn b) (mapPutV w' b (stK (tKey k)) (tVal k)) := by
      intro k hk hd K' hK
      obtain ⟨_, h2, h3⟩ := hI.put hb hk hd
      refine hK _ _ ⟨h3, ih _ _ ?_ h2⟩
      have key : ∀ l : List Nat, l.Nodup → k ∈ l → l.countP (fun i => !d i) = l.countP (fun i => !(if i = k then true else d i)) + 1 := by
        intro l
        induction l with
        | nil => intro _ h; cases h
        | cons x l ihl =>
          intro hnd hx
          rw [List.nodup_cons] at hnd
          rw [List.countP_cons, List.countP_cons]
          by_cases e : x = k
          · subst e
            have : l.countP (fun i => !(if i = x then true else d i)) = l.countP (fun i => !d i) := by
              refine List.countP_congr fun i hi => ?_
              have : i ≠ x := fun q => hnd.1 (q ▸ hi)
              simp [this]
            rw [this]
            simp [hd]
          · have := ihl hnd.2 (by simpa [Ne.symm e] using hx)
            rw [this]
            simp [e]
            omega
      have := key (List.range 9) List.nodup_range (List.mem_range.2 hk)
      omega
    refine ⟨fun h => absurd h hne, fun i hi => ?_⟩
    rcases hr i hi with ⟨rfl, q⟩ | ⟨rfl, q⟩ | ⟨rfl, q⟩ | ⟨rfl, q⟩ | ⟨rfl, q⟩ | ⟨rfl, q⟩ | ⟨rfl, q⟩ | ⟨rfl, q⟩ | ⟨rfl, q⟩
    · refine wpOp_step rfl (fun K' hK => ?_)
      have hup : (Instr.mapUpdate 129 (.map (some b)) (.agg #[.int .i64 0, .int .i64 0]) (.string ⟨#[115, 101, 108, 102]⟩)).run Tryz.prog w' = .ok () (mapPutV w' b (stK (tKey 0)) (tVal 0)) := (hI.put hb (k := 0) (by decide) q).1
      have hS := step 0 (by decide) q K' hK
      clear step hK hr hne hall
      generalize mapPutV w' b (stK (tKey 0)) (tVal 0) = w2 at *
      change if Region.wanted ({ dst := none, op := Op.insert 129 (.tmp 8) (.tmp 9) (.const (.string ⟨#[115, 101, 108, 102]⟩)), type := 0, pos := "kin.go:103", after := #[{ on := 0, ground := Ground.data }, { on := 1, ground := Ground.data }], guard := none } : Oper) (yielded (funcOps Tryz.f53) (termAct up dn b).tmps) = true then Oper.wp Tryz.prog ({ dst := none, op := Op.insert 129 (.tmp 8) (.tmp 9) (.const (.string ⟨#[115, 101, 108, 102]⟩)), type := 0, pos := "kin.go:103", after := #[{ on := 0, ground := Ground.data }, { on := 1, ground := Ground.data }], guard := none } : Oper) (termAct up dn b) w' K' Q else K' ((termAct up dn b).put none undef) w'
      unfold termAct at *
      go_simp
      exact hS
    · refine wpOp_step rfl (fun K' hK => ?_)
      have hup : (Instr.mapUpdate 129 (.map (some b)) (.agg #[.int .i64 0, .int .i64 1]) (.string ⟨#[112, 97, 114, 101, 110, 116]⟩)).run Tryz.prog w' = .ok () (mapPutV w' b (stK (tKey 1)) (tVal 1)) := (hI.put hb (k := 1) (by decide) q).1
      have hS := step 1 (by decide) q K' hK
      clear step hK hr hne hall
      generalize mapPutV w' b (stK (tKey 1)) (tVal 1) = w2 at *
      change if Region.wanted ({ dst := none, op := Op.insert 129 (.tmp 8) (.tmp 10) (.const (.string ⟨#[112, 97, 114, 101, 110, 116]⟩)), type := 0, pos := "kin.go:103", after := #[{ on := 0, ground := Ground.data }, { on := 3, ground := Ground.data }], guard := none } : Oper) (yielded (funcOps Tryz.f53) (termAct up dn b).tmps) = true then Oper.wp Tryz.prog ({ dst := none, op := Op.insert 129 (.tmp 8) (.tmp 10) (.const (.string ⟨#[112, 97, 114, 101, 110, 116]⟩)), type := 0, pos := "kin.go:103", after := #[{ on := 0, ground := Ground.data }, { on := 3, ground := Ground.data }], guard := none } : Oper) (termAct up dn b) w' K' Q else K' ((termAct up dn b).put none undef) w'
      unfold termAct at *
      go_simp
      exact hS
    · refine wpOp_step rfl (fun K' hK => ?_)
      have hup : (Instr.mapUpdate 129 (.map (some b)) (.agg #[.int .i64 0, .int .i64 2]) (.string ⟨#[103, 114, 97, 110, 100, 112, 97, 114, 101, 110, 116]⟩)).run Tryz.prog w' = .ok () (mapPutV w' b (stK (tKey 2)) (tVal 2)) := (hI.put hb (k := 2) (by decide) q).1
      have hS := step 2 (by decide) q K' hK
      clear step hK hr hne hall
      generalize mapPutV w' b (stK (tKey 2)) (tVal 2) = w2 at *
      change if Region.wanted ({ dst := none, op := Op.insert 129 (.tmp 8) (.tmp 11) (.const (.string ⟨#[103, 114, 97, 110, 100, 112, 97, 114, 101, 110, 116]⟩)), type := 0, pos := "kin.go:103", after := #[{ on := 0, ground := Ground.data }, { on := 5, ground := Ground.data }], guard := none } : Oper) (yielded (funcOps Tryz.f53) (termAct up dn b).tmps) = true then Oper.wp Tryz.prog ({ dst := none, op := Op.insert 129 (.tmp 8) (.tmp 11) (.const (.string ⟨#[103, 114, 97, 110, 100, 112, 97, 114, 101, 110, 116]⟩)), type := 0, pos := "kin.go:103", after := #[{ on := 0, ground := Ground.data }, { on := 5, ground := Ground.data }], guard := none } : Oper) (termAct up dn b) w' K' Q else K' ((termAct up dn b).put none undef) w'
      unfold termAct at *
      go_simp
      exact hS
    · refine wpOp_step rfl (fun K' hK => ?_)
      have hup : (Instr.mapUpdate 129 (.map (some b)) (.agg #[.int .i64 1, .int .i64 0]) (.string ⟨#[99, 104, 105, 108, 100]⟩)).run Tryz.prog w' = .ok () (mapPutV w' b (stK (tKey 3)) (tVal 3)) := (hI.put hb (k := 3) (by decide) q).1
      have hS := step 3 (by decide) q K' hK
      clear step hK hr hne hall
      generalize mapPutV w' b (stK (tKey 3)) (tVal 3) = w2 at *
      change if Region.wanted ({ dst := none, op := Op.insert 129 (.tmp 8) (.tmp 12) (.const (.string ⟨#[99, 104, 105, 108, 100]⟩)), type := 0, pos := "kin.go:103", after := #[{ on := 0, ground := Ground.data }, { on := 7, ground := Ground.data }], guard := none } : Oper) (yielded (funcOps Tryz.f53) (termAct up dn b).tmps) = true then Oper.wp Tryz.prog ({ dst := none, op := Op.insert 129 (.tmp 8) (.tmp 12) (.const (.string ⟨#[99, 104, 105, 108, 100]⟩)), type := 0, pos := "kin.go:103", after := #[{ on := 0, ground := Ground.data }, { on := 7, ground := Ground.data }], guard := none } : Oper) (termAct up dn b) w' K' Q else K' ((termAct up dn b).put none undef) w'
      unfold termAct at *
      go_simp
      exact hS
    · refine wpOp_step rfl (fun K' hK => ?_)
      have hup : (Instr.mapUpdate 129 (.map (some b)) (.agg #[.int .i64 2, .int .i64 0]) (.string ⟨#[103, 114, 97, 110, 100, 99, 104, 105, 108, 100]⟩)).run Tryz.prog w' = .ok () (mapPutV w' b (stK (tKey 4)) (tVal 4)) := (hI.put hb (k := 4) (by decide) q).1
      have hS := step 4 (by decide) q K' hK
      clear step hK hr hne hall
      generalize mapPutV w' b (stK (tKey 4)) (tVal 4) = w2 at *
      change if Region.wanted ({ dst := none, op := Op.insert 129 (.tmp 8) (.tmp 13) (.const (.string ⟨#[103, 114, 97, 110, 100, 99, 104, 105, 108, 100]⟩)), type := 0, pos := "kin.go:103", after := #[{ on := 0, ground := Ground.data }, { on := 9, ground := Ground.data }], guard := none } : Oper) (yielded (funcOps Tryz.f53) (termAct up dn b).tmps) = true then Oper.wp Tryz.prog ({ dst := none, op := Op.insert 129 (.tmp 8) (.tmp 13) (.const (.string ⟨#[103, 114, 97, 110, 100, 99, 104, 105, 108, 100]⟩)), type := 0, pos := "kin.go:103", after := #[{ on := 0, ground := Ground.data }, { on := 9, ground := Ground.data }], guard := none } : Oper) (termAct up dn b) w' K' Q else K' ((termAct up dn b).put none undef) w'
      unfold termAct at *
      go_simp
      exact hS
    · refine wpOp_step rfl (fun K' hK => ?_)
      have hup : (Instr.mapUpdate 129 (.map (some b)) (.agg #[.int .i64 1, .int .i64 1]) (.string ⟨#[115, 105, 98, 108, 105, 110, 103]⟩)).run Tryz.prog w' = .ok () (mapPutV w' b (stK (tKey 5)) (tVal 5)) := (hI.put hb (k := 5) (by decide) q).1
      have hS := step 5 (by decide) q K' hK
      clear step hK hr hne hall
      generalize mapPutV w' b (stK (tKey 5)) (tVal 5) = w2 at *
      change if Region.wanted ({ dst := none, op := Op.insert 129 (.tmp 8) (.tmp 14) (.const (.string ⟨#[115, 105, 98, 108, 105, 110, 103]⟩)), type := 0, pos := "kin.go:103", after := #[{ on := 0, ground := Ground.data }, { on := 11, ground := Ground.data }], guard := none } : Oper) (yielded (funcOps Tryz.f53) (termAct up dn b).tmps) = true then Oper.wp Tryz.prog ({ dst := none, op := Op.insert 129 (.tmp 8) (.tmp 14) (.const (.string ⟨#[115, 105, 98, 108, 105, 110, 103]⟩)), type := 0, pos := "kin.go:103", after := #[{ on := 0, ground := Ground.data }, { on := 11, ground := Ground.data }], guard := none } : Oper) (termAct up dn b) w' K' Q else K' ((termAct up dn b).put none undef) w'
      unfold termAct at *
      go_simp
      exact hS
    · refine wpOp_step rfl (fun K' hK => ?_)
      have hup : (Instr.mapUpdate 129 (.map (some b)) (.agg #[.int .i64 1, .int .i64 2]) (.string ⟨#[117, 110, 99, 108, 101]⟩)).run Tryz.prog w' = .ok () (mapPutV w' b (stK (tKey 6)) (tVal 6)) := (hI.put hb (k := 6) (by decide) q).1
      have hS := step 6 (by decide) q K' hK
      clear step hK hr hne hall
      generalize mapPutV w' b (stK (tKey 6)) (tVal 6) = w2 at *
      change if Region.wanted ({ dst := none, op := Op.insert 129 (.tmp 8) (.tmp 15) (.const (.string ⟨#[117, 110, 99, 108, 101]⟩)), type := 0, pos := "kin.go:103", after := #[{ on := 0, ground := Ground.data }, { on := 13, ground := Ground.data }], guard := none } : Oper) (yielded (funcOps Tryz.f53) (termAct up dn b).tmps) = true then Oper.wp Tryz.prog ({ dst := none, op := Op.insert 129 (.tmp 8) (.tmp 15) (.const (.string ⟨#[117, 110, 99, 108, 101]⟩)), type := 0, pos := "kin.go:103", after := #[{ on := 0, ground := Ground.data }, { on := 13, ground := Ground.data }], guard := none } : Oper) (termAct up dn b) w' K' Q else K' ((termAct up dn b).put none undef) w'
      unfold termAct at *
      go_simp
      exact hS
    · refine wpOp_step rfl (fun K' hK => ?_)
      have hup : (Instr.mapUpdate 129 (.map (some b)) (.agg #[.int .i64 2, .int .i64 1]) (.string ⟨#[110, 101, 112, 104, 101, 119]⟩)).run Tryz.prog w' = .ok () (mapPutV w' b (stK (tKey 7)) (tVal 7)) := (hI.put hb (k := 7) (by decide) q).1
      have hS := step 7 (by decide) q K' hK
      clear step hK hr hne hall
      generalize mapPutV w' b (stK (tKey 7)) (tVal 7) = w2 at *
      change if Region.wanted ({ dst := none, op := Op.insert 129 (.tmp 8) (.tmp 16) (.const (.string ⟨#[110, 101, 112, 104, 101, 119]⟩)), type := 0, pos := "kin.go:103", after := #[{ on := 0, ground := Ground.data }, { on := 15, ground := Ground.data }], guard := none } : Oper) (yielded (funcOps Tryz.f53) (termAct up dn b).tmps) = true then Oper.wp Tryz.prog ({ dst := none, op := Op.insert 129 (.tmp 8) (.tmp 16) (.const (.string ⟨#[110, 101, 112, 104, 101, 119]⟩)), type := 0, pos := "kin.go:103", after := #[{ on := 0, ground := Ground.data }, { on := 15, ground := Ground.data }], guard := none } : Oper) (termAct up dn b) w' K' Q else K' ((termAct up dn b).put none undef) w'
      unfold termAct at *
      go_simp
      exact hS
    · refine wpOp_step rfl (fun K' hK => ?_)
      have hup : (Instr.mapUpdate 129 (.map (some b)) (.agg #[.int .i64 2, .int .i64 2]) (.string ⟨#[99, 111, 117, 115, 105, 110]⟩)).run Tryz.prog w' = .ok () (mapPutV w' b (stK (tKey 8)) (tVal 8)) := (hI.put hb (k := 8) (by decide) q).1
      have hS := step 8 (by decide) q K' hK
      clear step hK hr hne hall
      generalize mapPutV w' b (stK (tKey 8)) (tVal 8) = w2 at *
      change if Region.wanted ({ dst := none, op := Op.insert 129 (.tmp 8) (.tmp 17) (.const (.string ⟨#[99, 111, 117, 115, 105, 110]⟩)), type := 0, pos := "kin.go:103", after := #[{ on := 0, ground := Ground.data }, { on := 17, ground := Ground.data }], guard := none } : Oper) (yielded (funcOps Tryz.f53) (termAct up dn b).tmps) = true then Oper.wp Tryz.prog ({ dst := none, op := Op.insert 129 (.tmp 8) (.tmp 17) (.const (.string ⟨#[99, 111, 117, 115, 105, 110]⟩)), type := 0, pos := "kin.go:103", after := #[{ on := 0, ground := Ground.data }, { on := 17, ground := Ground.data }], guard := none } : Oper) (termAct up dn b) w' K' Q else K' ((termAct up dn b).put none undef) w'
      unfold termAct at *
      go_simp
      exact hS
set_option maxRecDepth 100000 in
set_option maxHeartbeats 1000000 in
theorem term_any (up dn : Int) (w : World) : Calls Tryz.prog 53 #[.int .i64 up, .int .i64 dn] w fun e w' => e = .returned (.string (termF up dn)) ∧ Below w.heap.size w w' := by
  have hmm := @run_makeMap Tryz.prog
  go_enter Tryz.func53, Tryz.ntmps53
  go_upto_region 1 with fail
  refine wp_region_held_drew (S := fun w' => Below w.heap.size w w') (by kernel_rfl) (below_drew (Below.refl _ _)) (fun hHeld => ?_)
  refine wpAnyH_takeD (i := 1) (v := ?_) 9 rfl (by kernel_rfl) (by kernel_rfl) (by kernel_rfl) (fun _ _ _ h => h) (Or.inl ⟨by rfl, ?_⟩) (by assumption) rfl ?_
  rotate_left
  · intro w' hSw
    go_simp <;> with_reducible rfl
  simp only [List.setIfInBounds_toArray, List.set_cons_succ, List.set_cons_zero]
  refine wpAnyH_takeD (i := 3) (v := ?_) 10 rfl (by kernel_rfl) (by kernel_rfl) (by kernel_rfl) (fun _ _ _ h => h) (Or.inl ⟨by rfl, ?_⟩) (by assumption) rfl ?_
  rotate_left
  · intro w' hSw
    go_simp <;> with_reducible rfl
  simp only [List.setIfInBounds_toArray, List.set_cons_succ, List.set_cons_zero]
  refine wpAnyH_takeD (i := 5) (v := ?_) 11 rfl (by kernel_rfl) (by kernel_rfl) (by kernel_rfl) (fun _ _ _ h => h) (Or.inl ⟨by rfl, ?_⟩) (by assumption) rfl ?_
  rotate_left
  · intro w' hSw
    go_simp <;> with_reducible rfl
  simp only [List.setIfInBounds_toArray, List.set_cons_succ, List.set_cons_zero]
  refine wpAnyH_takeD (i := 7) (v := ?_) 12 rfl (by kernel_rfl) (by kernel_rfl) (by kernel_rfl) (fun _ _ _ h => h) (Or.inl ⟨by rfl, ?_⟩) (by assumption) rfl ?_
  rotate_left
  · intro w' hSw
    go_simp <;> with_reducible rfl
  simp only [List.setIfInBounds_toArray, List.set_cons_succ, List.set_cons_zero]
  refine wpAnyH_takeD (i := 9) (v := ?_) 13 rfl (by kernel_rfl) (by kernel_rfl) (by kernel_rfl) (fun _ _ _ h => h) (Or.inl ⟨by rfl, ?_⟩) (by assumption) rfl ?_
  rotate_left
  · intro w' hSw
    go_simp <;> with_reducible rfl
  simp only [List.setIfInBounds_toArray, List.set_cons_succ, List.set_cons_zero]
  refine wpAnyH_takeD (i := 11) (v := ?_) 14 rfl (by kernel_rfl) (by kernel_rfl) (by kernel_rfl) (fun _ _ _ h => h) (Or.inl ⟨by rfl, ?_⟩) (by assumption) rfl ?_
  rotate_left
  · intro w' hSw
    go_simp <;> with_reducible rfl
  simp only [List.setIfInBounds_toArray, List.set_cons_succ, List.set_cons_zero]
  refine wpAnyH_takeD (i := 13) (v := ?_) 15 rfl (by kernel_rfl) (by kernel_rfl) (by kernel_rfl) (fun _ _ _ h => h) (Or.inl ⟨by rfl, ?_⟩) (by assumption) rfl ?_
  rotate_left
  · intro w' hSw
    go_simp <;> with_reducible rfl
  simp only [List.setIfInBounds_toArray, List.set_cons_succ, List.set_cons_zero]
  refine wpAnyH_takeD (i := 15) (v := ?_) 16 rfl (by kernel_rfl) (by kernel_rfl) (by kernel_rfl) (fun _ _ _ h => h) (Or.inl ⟨by rfl, ?_⟩) (by assumption) rfl ?_
  rotate_left
  · intro w' hSw
    go_simp <;> with_reducible rfl
  simp only [List.setIfInBounds_toArray, List.set_cons_succ, List.set_cons_zero]
  refine wpAnyH_takeD (i := 17) (v := ?_) 17 rfl (by kernel_rfl) (by kernel_rfl) (by kernel_rfl) (fun _ _ _ h => h) (Or.inl ⟨by rfl, ?_⟩) (by assumption) rfl ?_
  rotate_left
  · intro w' hSw
    go_simp <;> with_reducible rfl
  simp only [List.setIfInBounds_toArray, List.set_cons_succ, List.set_cons_zero]
  refine wpAnyH_ready (rs := [0]) (by kernel_rfl) (by simp) ?_
  refine AllReadyH.cons (o := _) rfl (fun K hK => ?_) AllReadyH.nil
  go_simp
  refine hK.out _ _ (show Below w.heap.size w _ from below_drew ((Below.refl _ _).alloc (Nat.le_refl _) _)) (fun hHeld1 => ?_)
  clear hK K
  refine term_bag up dn w.heap.size w (Nat.le_refl _) _ ?_ 9 (fun _ => false) _ rfl ⟨[], MapK.new w, hHeld1, by simp⟩
  intro d w' hd hI
  obtain ⟨m, hm, hB, hk⟩ := hI.all hd
  have e : lst d = #[true, true, true, true, true, true, true, true, true, true, true, true, true, true, true, true, true, true, true, false, false] := by simp [lst, hd]
  rw [e]
  have hlk := hm.lookup (P := Tryz.prog) (t := 129) Tryz.underlying129 st_keyS (Tryz.zeroValue9 _) (up, dn) true
  rw [hk, getK_term] at hlk
  have HB := Lib.hid hB
  clear hHeld hHeld1 hI hd e hk hm
  have hHeld : Below w.heap.size w w' := HB.out
  clear hB
  unfold termAct
  refine wpAnyH_takeD (i := 19) (v := .map (some w.heap.size)) 18 rfl (by kernel_rfl) (by kernel_rfl) (by kernel_rfl) (fun _ _ _ h => h) (Or.inl ⟨by rfl, ?_⟩) (by assumption) rfl ?_
  · intro w' hSw
    rfl
  simp only [List.setIfInBounds_toArray, List.set_cons_succ, List.set_cons_zero]
  refine wpAnyH_takeD (i := 20) (v := .map (some w.heap.size)) 5 rfl (by kernel_rfl) (by kernel_rfl) (by kernel_rfl) (fun _ _ _ h => h) (Or.inl ⟨by rfl, ?_⟩) (by assumption) rfl ?_
  · intro w' hSw
    rfl
  simp only [List.setIfInBounds_toArray, List.set_cons_succ, List.set_cons_zero]
  refine wpAnyH_done (by kernel_rfl) ?_ _
  clear hHeld
  have HR : ∀ r, termF up dn = r → Hid (termF up dn = r) := fun r h => Lib.hid h
  by_cases hn : up < 0 ∨ dn < 0
  · have hr := HR ⟨#[]⟩ (if_pos hn)
    clear HR
    cases hT : termS up dn with
    | none =>
      rw [hT] at hlk
      have hlk2 : (Instr.lookup 129 (.map (some w.heap.size)) (.agg #[.int .i64 up, .int .i64 dn]) true).run Tryz.prog w' = .ok (.tuple #[.string ⟨#[]⟩, .bool false]) w' := hlk
      clear hlk
      by_cases h0 : up < 0
      · clear hn hT
        go_wp2
        go_ret
        exact ⟨by rw [hr.out]; rfl, HB.out⟩
      · have h1 : dn < 0 := by omega
        clear hn hT
        go_wp2
        go_ret
        exact ⟨by rw [hr.out]; rfl, HB.out⟩
    | some s =>
      rw [hT] at hlk
      have hlk2 : (Instr.lookup 129 (.map (some w.heap.size)) (.agg #[.int .i64 up, .int .i64 dn]) true).run Tryz.prog w' = .ok (.tuple #[.string s, .bool true]) w' := hlk
      clear hlk
      by_cases h0 : up < 0
      · clear hn hT
        go_wp2
        go_ret
        exact ⟨by rw [hr.out]; rfl, HB.out⟩
      · have h1 : dn < 0 := by omega
        clear hn hT
        go_wp2
        go_ret
        exact ⟨by rw [hr.out]; rfl, HB.out⟩
  · have u0 : ¬ up < 0 := by omega
    have d0 : ¬ dn < 0 := by omega
    cases hT : termS up dn with
    | some s =>
      have hr := HR s (by unfold termF; rw [if_neg hn, hT])
      rw [hT] at hlk
      have hlk2 : (Instr.lookup 129 (.map (some w.heap.size)) (.agg #[.int .i64 up, .int .i64 dn]) true).run Tryz.prog w' = .ok (.tuple #[.string s, .bool true]) w' := hlk
      clear hlk
      clear HR hn hT
      go_wp2
      go_ret
      exact ⟨by rw [hr.out]; rfl, HB.out⟩
    | none =>
      have hr := Lib.hid (show termF up dn = if up = 0 then tAncestor else if dn = 0 then tDescendant else tKin by unfold termF; rw [if_neg hn, hT])
      rw [hT] at hlk
      have hlk2 : (Instr.lookup 129 (.map (some w.heap.size)) (.agg #[.int .i64 up, .int .i64 dn]) true).run Tryz.prog w' = .ok (.tuple #[.string ⟨#[]⟩, .bool false]) w' := hlk
      clear hlk
      clear HR hn hT
      by_cases hu : up = 0
      · have hr2 := Lib.hid (hr.out.trans (if_pos hu))
        have hu' : (up == 0) = true := beq_iff_eq.2 hu
        clear hr hu
        go_wp2
        go_ret
        exact ⟨by rw [hr2.out]; rfl, HB.out⟩
      · by_cases hd : dn = 0
        · have hr2 := Lib.hid (hr.out.trans (by rw [if_neg hu, if_pos hd]))
          have hu' : (up == 0) = false := beq_eq_false_iff_ne.2 hu
          have hd' : (dn == 0) = true := beq_iff_eq.2 hd
          clear hr hu hd
          go_wp2
          go_ret
          exact ⟨by rw [hr2.out]; rfl, HB.out⟩
        · have hr2 := Lib.hid (hr.out.trans (by rw [if_neg hu, if_neg hd]))
          have hu' : (up == 0) = false := beq_eq_false_iff_ne.2 hu
          have hd' : (dn == 0) = false := beq_eq_false_iff_ne.2 hd
          clear hr hu hd
          go_wp2
          go_ret
          exact ⟨by rw [hr2.out]; rfl, HB.out⟩
end
end Go.Proofs.YtdmcopjbckelmaaGreatDoor
