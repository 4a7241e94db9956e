/- Plain: the search for a contradiction. No condition. A range over a function whose rounds are told of the world in which they begin. Conditions: those stated. Walks of the package people: the closure that goes through the sets of facts. Conditions: those stated. Walks of the package people: the closure that goes through the sets of facts, whole. Conditions: those stated. Walks of the package people: the iterator over the sets of facts. Conditions: those stated. A range over the sets of facts: what its body owes. Conditions: those stated. Walks of the package people: Contradiction. Conditions: those stated. Walks of the package people: Contradiction, where it searches. Conditions: those stated. Walks of the package people: Contradiction, whole. Conditions: those stated. -/
import Derived.Test.YtdmcopjbckelmaaGreatDoorZC
import Derived.Test.YtdmcopjbckelmaaGreatDoorZD
import Derived.Test.YtdmcopjbckelmaaGreatDoorZE
import Derived.Deep.WholeRow
namespace Go.Proofs.YtdmcopjbckelmaaGreatDoor
section
open Go Go.RowKit

def noFa : Fa := ⟨0, ByteArray.empty, ByteArray.empty, 0⟩
/-- The facts of some indices. -/
def selF (fs : List Fa) (l : List Nat) : List Fa := l.map fun i => fs.getD i noFa
def badL (ps : List ByteArray) (fs : List Fa) (l : List Nat) : Bool := (solveF ps (selF fs l)).isNone
theorem selF_snoc (fs : List Fa) (l : List Nat) (j : Nat) : selF fs (l ++ [j]) = selF fs l ++ [fs.getD j noFa] := by simp [selF]
/-- The search behind a set of facts that have a solution: d + 1 more facts, from an index on. -/
def srch (ps : List ByteArray) (fs : List Fa) : Nat → Mat → List Nat → Nat → Option (List Nat)
  | 0, D, set, i => (List.range' i (fs.length - i)).findSome? fun j => match amL D (boundsF ps (fs.getD j noFa)) with
    | none => some (set ++ [j])
    | some _ => none
  | d + 1, D, set, i => (List.range' i (fs.length - i)).findSome? fun j => match amL D (boundsF ps (fs.getD j noFa)) with
    | none => none
    | some E => srch ps fs d E (set ++ [j]) (j + 1)
/-- One fact of the search. -/
def srchAt (ps : List ByteArray) (fs : List Fa) (d : Nat) (D : Mat) (set : List Nat) (j : Nat) : Option (List Nat) := match amL D (boundsF ps (fs.getD j noFa)) with
  | none => if d = 0 then some (set ++ [j]) else none
  | some E => if d = 0 then none else srch ps fs (d - 1) E (set ++ [j]) (j + 1)
theorem srch_eq (ps : List ByteArray) (fs : List Fa) (d : Nat) (D : Mat) (set : List Nat) (i : Nat) : srch ps fs d D set i = (List.range' i (fs.length - i)).findSome? (srchAt ps fs d D set) := by
  cases d with
  | zero =>
    unfold srch
    congr 1
  | succ d =>
    unfold srch
    congr 1
theorem srch_end {ps : List ByteArray} {fs : List Fa} {d : Nat} {D : Mat} {set : List Nat} {i : Nat} (h : ¬ i < fs.length) : srch ps fs d D set i = none := by
  rw [srch_eq, show fs.length - i = 0 by omega]
  rfl
theorem srch_some {ps : List ByteArray} {fs : List Fa} {d : Nat} {D : Mat} {set s : List Nat} {i : Nat} (h : i < fs.length) (hs : srchAt ps fs d D set i = some s) : srch ps fs d D set i = some s := by
  rw [srch_eq, show fs.length - i = (fs.length - (i + 1)) + 1 by omega, List.range'_succ, List.findSome?_cons, hs]
theorem srch_next {ps : List ByteArray} {fs : List Fa} {d : Nat} {D : Mat} {set : List Nat} {i : Nat} (h : i < fs.length) (hs : srchAt ps fs d D set i = none) : srch ps fs d D set i = srch ps fs d D set (i + 1) := by
  rw [srch_eq, srch_eq, show fs.length - i = (fs.length - (i + 1)) + 1 by omega, List.range'_succ, List.findSome?_cons, hs]
theorem srchAt_none0 {ps : List ByteArray} {fs : List Fa} {D : Mat} {set : List Nat} {j : Nat} {f : Fa} (hf : fs[j]? = some f) (h : amL D (boundsF ps f) = none) : srchAt ps fs 0 D set j = some (set ++ [j]) := by
  unfold srchAt
  rw [show fs.getD j noFa = f by simp [List.getD, hf], h]
  rfl
theorem srchAt_none1 {ps : List ByteArray} {fs : List Fa} {d : Nat} {D : Mat} {set : List Nat} {j : Nat} {f : Fa} (hf : fs[j]? = some f) (h : amL D (boundsF ps f) = none) : srchAt ps fs (d + 1) D set j = none := by
  unfold srchAt
  rw [show fs.getD j noFa = f by simp [List.getD, hf], h]
  rfl
theorem srchAt_some0 {ps : List ByteArray} {fs : List Fa} {D E : Mat} {set : List Nat} {j : Nat} {f : Fa} (hf : fs[j]? = some f) (h : amL D (boundsF ps f) = some E) : srchAt ps fs 0 D set j = none := by
  unfold srchAt
  rw [show fs.getD j noFa = f by simp [List.getD, hf], h]
  rfl
theorem srchAt_some1 {ps : List ByteArray} {fs : List Fa} {d : Nat} {D E : Mat} {set : List Nat} {j : Nat} {f : Fa} (hf : fs[j]? = some f) (h : amL D (boundsF ps f) = some E) : srchAt ps fs (d + 1) D set j = srch ps fs d E (set ++ [j]) (j + 1) := by
  unfold srchAt
  rw [show fs.getD j noFa = f by simp [List.getD, hf], h]
  rfl
/-- The first one of the smallest contradictory sets, of at most so many facts. -/
def contrF (ps : List ByteArray) (fs : List Fa) (most : Nat) : Option (List Nat) := (List.range' 1 most).findSome? fun many => srch ps fs (many - 1) (bornE ps.length 0 0) [] 0

/-- A search that asks what is known of sets; none: it isn't known. -/
def loopO (f : Nat → Option (Option (List Nat))) : Nat → Nat → Option (Option (List Nat))
  | 0, _ => some none
  | k + 1, i => match f i with
    | none => none
    | some (some s) => some (some s)
    | some none => loopO f k (i + 1)
def srchO (o : List Nat → Option Bool) (n : Nat) : Nat → List Nat → Nat → Option (Option (List Nat))
  | 0, set, i => loopO (fun j => match o (set ++ [j]) with | none => none | some true => some (some (set ++ [j])) | some false => some none) (n - i) i
  | d + 1, set, i => loopO (fun j => match o (set ++ [j]) with | none => none | some true => some none | some false => srchO o n d (set ++ [j]) (j + 1)) (n - i) i
theorem loopO_ok {f : Nat → Option (Option (List Nat))} {g : Nat → Option (List Nat)} (h : ∀ j r, f j = some r → g j = r) : ∀ (k i : Nat) (r : Option (List Nat)), loopO f k i = some r → (List.range' i k).findSome? g = r := by
  intro k
  induction k with
  | zero => intro i r e; simp only [loopO] at e; cases e; rfl
  | succ k ih =>
    intro i r e
    simp only [loopO] at e
    rw [List.range'_succ, List.findSome?_cons]
    cases hf : f i with
    | none => rw [hf] at e; cases e
    | some q =>
      rw [hf] at e
      rw [h i q hf]
      cases q with
      | none => exact ih (i + 1) r e
      | some s => cases e; rfl
theorem badL_snoc {ps : List ByteArray} {fs : List Fa} {D : Mat} {set : List Nat} (e : solveF ps (selF fs set) = some D) (j : Nat) : badL ps fs (set ++ [j]) = (amL D (boundsF ps (fs.getD j noFa))).isNone := by
  unfold badL
  rw [selF_snoc, solveF_snoc, e]
  rfl
theorem srchO_ok {ps : List ByteArray} {fs : List Fa} {o : List Nat → Option Bool} (ho : ∀ l b, o l = some b → badL ps fs l = b) : ∀ (d : Nat) (D : Mat) (set : List Nat) (i : Nat) (r : Option (List Nat)), solveF ps (selF fs set) = some D → srchO o fs.length d set i = some r → srch ps fs d D set i = r := by
  intro d
  induction d with
  | zero =>
    intro D set i r e h
    rw [srch_eq]
    refine loopO_ok (fun j q hq => ?_) _ _ _ h
    have hb := badL_snoc e j
    unfold srchAt
    cases hs : o (set ++ [j]) with
    | none => rw [hs] at hq; cases hq
    | some b =>
      rw [hs] at hq
      rw [ho _ _ hs] at hb
      cases b with
      | true =>
        cases hq
        rw [Option.isNone_iff_eq_none.1 hb.symm]
        rfl
      | false =>
        cases hq
        obtain ⟨E, hE⟩ := Option.isSome_iff_exists.1 (show (amL D (boundsF ps (fs.getD j noFa))).isSome = true by cases h : amL D (boundsF ps (fs.getD j noFa)) with | none => rw [h] at hb; cases hb | some _ => rfl)
        rw [hE]
        rfl
  | succ d ih =>
    intro D set i r e h
    rw [srch_eq]
    refine loopO_ok (fun j q hq => ?_) _ _ _ h
    have hb := badL_snoc e j
    unfold srchAt
    cases hs : o (set ++ [j]) with
    | none => rw [hs] at hq; cases hq
    | some b =>
      rw [hs] at hq
      rw [ho _ _ hs] at hb
      cases b with
      | true =>
        cases hq
        rw [Option.isNone_iff_eq_none.1 hb.symm]
        rfl
      | false =>
        obtain ⟨E, hE⟩ := Option.isSome_iff_exists.1 (show (amL D (boundsF ps (fs.getD j noFa))).isSome = true by cases h : amL D (boundsF ps (fs.getD j noFa)) with | none => rw [h] at hb; cases hb | some _ => rfl)
        rw [hE]
        refine ih E (set ++ [j]) (j + 1) q ?_ hq
        rw [selF_snoc, solveF_snoc, e]
        exact hE
/-- The born: what is asked of each person alone. -/
theorem sol_born {p : Nat} (hp : p ≤ 24) (t : Nat → Int) : Sol p (bornE p 0 0) t ↔ ∀ m, m < p → t (2 * m) - t 48 ≤ 4000 ∧ t 48 - t (2 * m) ≤ 4000 ∧ t (2 * m) - t (2 * m + 1) ≤ 0 ∧ t (2 * m + 1) - t (2 * m) ≤ 100 := by
  have hin : ∀ {i k : Nat}, i ≠ k → In p i → In p k → bornE p 0 0 i k = baseF i k := fun hne hi hk => bornE_in hne ⟨by unfold In at hi; omega, by unfold In at hk; omega⟩
  constructor
  · intro h m hm
    have i0 : In p (2 * m) := .inl (by omega)
    have i1 : In p (2 * m + 1) := .inl (by omega)
    have io := In.org p
    have a := h _ _ i0 io
    have b := h _ _ io i0
    have c := h _ _ i0 i1
    have d := h _ _ i1 i0
    rw [hin (by omega) i0 io] at a
    rw [hin (by omega) io i0] at b
    rw [hin (by omega) i0 i1] at c
    rw [hin (by omega) i1 i0] at d
    have ea := baseF_eq (show 2 * m ≠ 48 by omega)
    have eb := baseF_eq (show 48 ≠ 2 * m by omega)
    have ec := baseF_eq (show 2 * m ≠ 2 * m + 1 by omega)
    have ed := baseF_eq (show 2 * m + 1 ≠ 2 * m by omega)
    have u0 := upF_eq (2 * m)
    have u1 := upF_eq 48
    have d0 := dnF_eq (2 * m)
    have d1 := dnF_eq 48
    refine ⟨?_, ?_, ?_, ?_⟩
    · rcases ea with q | q | q <;> omega
    · rcases eb with q | q | q <;> omega
    · rcases ec with q | q | q <;> omega
    · rcases ed with q | q | q <;> omega
  · intro h i k hi hk
    by_cases e : i = k
    · subst e; rw [bornE_self]; omega
    · rw [hin e hi hk]
      have eb := baseF_eq e
      have ui := upF_eq i
      have dk := dnF_eq k
      have hi' : i = 48 ∨ ∃ m, m < p ∧ (i = 2 * m ∨ i = 2 * m + 1) := by
        rcases hi with q | q
        · exact .inr ⟨i / 2, by omega, by omega⟩
        · exact .inl q
      have hk' : k = 48 ∨ ∃ m, m < p ∧ (k = 2 * m ∨ k = 2 * m + 1) := by
        rcases hk with q | q
        · exact .inr ⟨k / 2, by omega, by omega⟩
        · exact .inl q
      rcases hi' with rfl | ⟨m, hm, rfl | rfl⟩ <;> rcases hk' with rfl | ⟨m', hm', rfl | rfl⟩
      · omega
      · have := h m' hm'; omega
      · have := h m' hm'; omega
      · have := h m hm; omega
      · have := h m hm; have := h m' hm'; omega
      · have a := h m hm
        have b := h m' hm'
        rcases eb with q | q | q
        · obtain rfl : m = m' := by omega
          omega
        · omega
        · omega
      · have := h m hm; omega
      · have a := h m hm
        have b := h m' hm'
        rcases eb with q | q | q
        · omega
        · obtain rfl : m = m' := by omega
          omega
        · omega
      · have := h m hm; have := h m' hm'; omega
end

section
open Go Go.RowKit Go.Shelf

/-- The record of a range over a function. -/
abbrev loopR (fn : FuncId) (tm : Array Value) (ps : Array Tmp) (assign body : Code) (D : Nat) (st : LoopState) (pe : Option Code) : Loop := { state := st, pending := pe, fn := fn, tmps := tm, params := ps, assign := assign, body := body, defers := D }
/-- The statement, its rounds met one by one where yield is called. -/
theorem range_tell {F : Fence} {n : Nat} {P : Program} {g : Operand} {ps : Array Tmp} {assign body : Code} {Q : Exit → Act → World → Prop} {a : Act} {w : World} (hro : F.round = none) (h1 : 1 ≤ n) {gf : Nat} {lb : Array Value} (hg : a.eval g = .func (.func gf) #[] lb) (hF : F.fn gf) (eg : ∀ args w, (callFunc gf args).run P w = .ok (.enter gf args) w)
    (h : ∀ fn, F.fn fn → CallsIn F (n - 1) P gf (#[.func (.yield (w.heap.size + 1)) #[] #[]] ++ lb) ((w.alloc (.deferred (some []))).alloc (.loop (loopR fn a.tmps ps assign body w.heap.size .ready none))) fun e W2 => (∃ v, e = .returned v) ∧ ∃ st pe, st ≠ .busy ∧ W2.heap[w.heap.size + 1]? = some (.loop (loopR fn a.tmps ps assign body w.heap.size st pe)) ∧
      (match pe with
      | none => Q .normal { a with defers := { target := .collected w.heap.size, args := #[] } :: a.defers } (W2.putObj (w.heap.size + 1) (.loop (loopR fn a.tmps ps assign body w.heap.size .exhausted none)))
      | some c => c.wpIn F n P Q { a with defers := { target := .collected w.heap.size, args := #[] } :: a.defers } (W2.putObj (w.heap.size + 1) (.loop (loopR fn a.tmps ps assign body w.heap.size .exhausted (some c)))))) :
    (Code.rangeFunc g ps assign body).wpIn F n P Q a w := by
  refine wpIn_rangeFunc ?_
  intro fn hfn
  rw [hro]
  have hh := h fn hfn
  refine ⟨w.heap.size + 1, [{ target := .collected w.heap.size, args := #[] }], (w.alloc (.deferred (some []))).alloc (.loop (loopR fn a.tmps ps assign body w.heap.size .ready none)), { target := .fn (.func gf) lb, args := #[.func (.yield (w.heap.size + 1)) #[] #[]] }, (w.alloc (.deferred (some []))).alloc (.loop (loopR fn a.tmps ps assign body w.heap.size .ready none)), gf, #[.func (.yield (w.heap.size + 1)) #[] #[]] ++ lb, (w.alloc (.deferred (some []))).alloc (.loop (loopR fn a.tmps ps assign body w.heap.size .ready none)), ?_, ?_, ?_, ?_, fun _ => h1, ?_⟩
  · exact run_enterLoop_outer _ _ _ _ _
  · simp only [resolve, hg]
    simp [go_sem]
  · intro f' hf'
    simp [Target.leads] at hf'
    subst hf'
    exact hF
  · simp [invoke, go_sem, eg]
  · refine hh.mono ?_
    intro e W2 hq
    obtain ⟨⟨v, he⟩, st, pe, hb, hl, hq⟩ := hq
    subst he
    refine ⟨pe, _, run_endLoop hl hb, ?_⟩
    cases pe with
    | none => exact hq
    | some c => exact hq
/-- One round: its assignments, then its body, each told of the record. -/
theorem yield_tell {F : Fence} {m : Nat} {P : Program} {l : Nat} {fn : FuncId} {tm : Array Value} {ps : Array Tmp} {assign body : Code} {D : Nat} {args : Array Value} {W : World} {R : Ending → World → Prop} (hfn : F.fn fn) (hl : W.heap[l]? = some (.loop (loopR fn tm ps assign body D .ready none))) (hs : args.size = ps.size)
    (h : assign.wpIn (F.inRound l) m P (Exit.then (fun a1 W1 => W1.heap[l]? = some (.loop (loopR fn tm ps assign body D .ready none)) ∧ body.wpIn (F.inRound l) m P (fun e _ W3 => W3.heap[l]? = some (.loop (loopR fn tm ps assign body D .busy none)) ∧
        (match e with
        | .normal => R (.returned (.bool true)) (W3.putObj l (.loop (loopR fn tm ps assign body D .ready none)))
        | .ret => R (.returned (.bool false)) (W3.putObj l (.loop (loopR fn tm ps assign body D .done (some .ret))))
        | _ => False)) a1 (W1.putObj l (.loop (loopR fn tm ps assign body D .busy none)))) (fun _ _ _ => False)) { tmps := (ps.zip args).foldl (fun t (p, v) => t.setIfInBounds p v) tm, defers := [] } W) :
    YieldAt F m P l args W R := by
  refine ⟨fn, _, assign, body, run_yield hl hs, roundIn_of_wpIn hfn (wpIn_mono h ?_)⟩
  intro e a1 W1 hq
  cases e with
  | normal =>
    obtain ⟨hl1, hb⟩ := hq
    refine ⟨_, run_beginRound hl1 rfl, wpIn_mono hb ?_⟩
    intro e2 a2 W3 h3
    obtain ⟨hl3, h3⟩ := h3
    cases e2 with
    | normal => exact ⟨_, _, run_endRound none hl3, h3⟩
    | ret => exact ⟨_, _, run_endRound (some .ret) hl3, h3⟩
    | exit id => exact h3.elim
    | goto t => exact h3.elim
    | panic c => exact h3.elim
    | outgrown => exact h3.elim
  | ret => exact hq.elim
  | exit id => exact hq.elim
  | goto t => exact hq.elim
  | panic c => exact hq.elim
  | outgrown => exact hq.elim
theorem room_of_wide (k : Nat) : Fence.wide.room k := room_wide k
/-- Where no depth is asked the figures are all one. -/
theorem yield_deep {m : Nat} (m' : Nat) {P : Program} {l : Nat} {args : Array Value} {W : World} {R : Ending → World → Prop} (h : YieldAt Fence.wide m P l args W R) : YieldAt Fence.wide m' P l args W R := by
  obtain ⟨fn, tmps, assign, body, hy, hR⟩ := h
  exact ⟨fn, tmps, assign, body, hy, hR.1, fun c cs _ => hR.2 c cs (room_wide _)⟩
/-- The marks on an activation's deferred calls: each names a block of its own, which holds nothing. -/
def Marks (W : World) : List Nat → Prop
  | [] => True
  | d :: ds => W.heap[d]? = some (.deferred (some [])) ∧ (∀ e ∈ ds, e ≠ d) ∧ Marks W ds
def marksD (ds : List Nat) : List Deferred := ds.map fun d => { target := .collected d, args := #[] }
theorem Marks.kept {W W' : World} : ∀ {ds : List Nat}, Marks W ds → (∀ d ∈ ds, W'.heap[d]? = W.heap[d]?) → Marks W' ds
  | [], _, _ => trivial
  | _ :: _, ⟨h1, h2, h3⟩, hk => ⟨(hk _ (by simp)).trans h1, h2, h3.kept fun d hd => hk d (by simp [hd])⟩
theorem Marks.lt {W : World} : ∀ {ds : List Nat}, Marks W ds → ∀ d ∈ ds, d < W.heap.size
  | [], _, d, hd => by cases hd
  | _ :: _, ⟨h1, _, h3⟩, d, hd => by
    rcases List.mem_cons.1 hd with q | q
    · subst q; exact (Array.getElem?_eq_some_iff.1 h1).1
    · exact h3.lt d q
theorem marks_leave {F : Fence} {n : Nat} {P : Program} {fn : Func} {tmps : Array Value} {R : Ending → World → Prop} : ∀ {ds : List Nat} {W : World}, Marks W ds → (∀ W', (∀ k, k ∉ ds → W'.heap[k]? = W.heap[k]?) → W'.os = W.os → W'.tape = W.tape → W'.output = W.output → W'.heap.size = W.heap.size → LeavesIn F n P fn tmps R [] .returning W') → LeavesInM F n P fn tmps R (marksD ds) .returning W
  | [], W, _, h => h W (fun _ _ => rfl) rfl rfl rfl rfl
  | d :: ds, W, ⟨h1, h2, h3⟩, h => by
    refine ⟨by simp, .inl ⟨d, _, rfl, run_takeDeferred h1, ?_⟩⟩
    refine marks_leave (h3.kept fun e he => World.putObj_heap_other (h2 e he)) fun W' hk ho ht hu hz => ?_
    refine h W' (fun k hk' => ?_) ho ht hu (by rw [hz]; simp)
    have : k ≠ d := fun e => hk' (by simp [e])
    exact (hk k (fun q => hk' (by simp [q]))).trans (World.putObj_heap_other this)
end

section
open Go Go.RowKit Go.Shelf
attribute [local go_sem] Oper.semAt_some

def natsV (l : List Nat) : List Value := l.map fun (n : Nat) => Value.int .i64 (n : Int)
theorem natsV_length (l : List Nat) : (natsV l).length = l.length := by simp [natsV]
theorem natsV_append (l m : List Nat) : natsV (l ++ m) = natsV l ++ natsV m := by simp [natsV]
theorem natsV_one (l : List Nat) : ∀ u ∈ natsV l, u.oneCell' = true := by
  intro u hu
  obtain ⟨n, _, rfl⟩ := List.mem_map.1 hu
  rfl
theorem natsV_ints (l : List Nat) : natsV l = (l.map Int.ofNat).map (Value.int .i64) := by simp [natsV]
theorem cloneI (v : Value) (l : List Nat) (w : World) (hv : Sl w 1 v (natsV l)) (hl : l.length ≤ 1000) :
    Calls Tryz.prog 112 #[v] w fun e w' => ∃ v', e = .returned v' ∧ w'.ownsRow w.heap.size 3 1 v' l.length (natsV l) ∧ Below w.heap.size w w' := by
  obtain ⟨A, n, c, rfl, hn, _, _, hcl⟩ := hv.open2 (by decide)
  rw [natsV_length] at hn
  obtain rfl : n = l.length := by omega
  rcases Nat.eq_zero_or_pos l.length with h0 | h0
  · obtain rfl : l = [] := List.length_eq_zero_iff.1 h0
    cases A with
    | none =>
      refine (Tryz.slices_Clone_int_nil _ c w).mono ?_
      rintro e w' ⟨rfl, rfl⟩
      exact ⟨_, rfl, World.ownsRow_nil _ _ _ _, Below.refl _ _⟩
    | some a =>
      refine (Tryz.slices_Clone_int_zero a c w).mono ?_
      rintro e w' ⟨v', rfl, ho, _, hb⟩
      exact ⟨v', rfl, ho, hb⟩
  · obtain ⟨b, o, rfl, _, hce⟩ := hcl h0
    refine (Tryz.slices_Clone_int b o l.length c (l.map Int.ofNat) w (by simp) (by omega) (fun j hj => ?_)).mono ?_
    · rw [List.length_map] at hj
      refine hce j _ ?_
      simp [natsV, hj]
    · rintro e w' ⟨v', rfl, ho, _, hb⟩
      rw [List.take_of_length_le (by simp)] at ho
      rw [natsV_ints]
      exact ⟨v', rfl, ho, hb⟩
/-- The first fact behind a set. -/
def nxt (set : List Nat) : Nat := match set.getLast? with
  | none => 0
  | some k => k + 1
theorem nxt_snoc (set : List Nat) (k : Nat) : nxt (set ++ [k]) = k + 1 := by simp [nxt]
/-- The variables that the closures share. -/
structure FrC (W : World) (l bn bm by_ bf : Nat) (A : Option Addr) (n c : Nat) (F : Option Addr) (m d : Nat) (many : Nat) (ps : List ByteArray) (fs : List Fa) : Prop where
  net : Cel W bn 25 #[.slice A n c, .slice F m d]
  many : Cel W bm 3 #[.int .i64 (many : Int)]
  yield : Cel W by_ 156 #[.func (.yield l) #[] #[]]
  frm : Cel W bf 157 #[.func (.func 111) #[] #[.pointer (some ⟨bn, 0, none⟩), .pointer (some ⟨bm, 0, none⟩), .pointer (some ⟨by_, 0, none⟩), .pointer (some ⟨bf, 0, none⟩)]]
  data : NetC W A n c F m d ps fs
/-- A step that leaves all but a loop's record. -/
theorem KC.loop {W W' : World} {l : Nat} (hl : ∃ r, W.heap[l]? = some (.loop r)) (hg : W.grownBy W' (some l)) : KC W W' := by
  obtain ⟨r, hr⟩ := hl
  refine ⟨hg.size, fun p u hp => hg.cell hp (fun e => ?_)⟩
  cases e
  simp [World.cell?, hr] at hp
theorem Cel.loop {W W' : World} {l B : Nat} {t : TypeId} {vs : Array Value} (h : Cel W B t vs) (hl : ∃ r, W.heap[l]? = some (.loop r)) (hg : W.grownBy W' (some l)) : Cel W' B t vs := by
  obtain ⟨r, hr⟩ := hl
  refine h.kept hg (fun e => ?_)
  cases e
  rw [show W.heap[l]? = _ from h] at hr
  cases hr
theorem NetC.kc {w w' : World} {A : Option Addr} {n c : Nat} {F : Option Addr} {m d : Nat} {ps : List ByteArray} {fs : List Fa} (h : NetC w A n c F m d ps fs) (hb : KC w w') : NetC w' A n c F m d ps fs := ⟨h.people.kc hb, h.facts.kc hb⟩
theorem FrC.loop {W W' : World} {l bn bm by_ bf : Nat} {A : Option Addr} {n c : Nat} {F : Option Addr} {m d : Nat} {many : Nat} {ps : List ByteArray} {fs : List Fa} (h : FrC W l bn bm by_ bf A n c F m d many ps fs) (hl : ∃ r, W.heap[l]? = some (.loop r)) (hg : W.grownBy W' (some l)) : FrC W' l bn bm by_ bf A n c F m d many ps fs :=
  ⟨h.net.loop hl hg, h.many.loop hl hg, h.yield.loop hl hg, h.frm.loop hl hg, h.data.kc (KC.loop hl hg)⟩
theorem FrC.below {W W' : World} {l bn bm by_ bf : Nat} {A : Option Addr} {n c : Nat} {F : Option Addr} {m d : Nat} {many : Nat} {ps : List ByteArray} {fs : List Fa} (h : FrC W l bn bm by_ bf A n c F m d many ps fs) (hg : Below W.heap.size W W') : FrC W' l bn bm by_ bf A n c F m d many ps fs :=
  ⟨h.net.below h.net.lt hg, h.many.below h.many.lt hg, h.yield.below h.yield.lt hg, h.frm.below h.frm.lt hg, h.data.below hg⟩
theorem zeroLives : Tryz.zeroCells134.size = 2402 := by kernel_rfl
theorem infoLives : (Tryz.prog.info? 134).map (·.size) = some 2402 := by kernel_rfl
theorem LvV.one {vs : Array Value} {A : Option Addr} {n c : Nat} {D : Mat} (h : LvV vs (.slice A n c) D) : vs.all (·.oneCell') = true := by
  rw [Array.all_eq_true]
  intro i hi
  have hs := h.1
  have h0 : vs[i]? = some vs[i] := Array.getElem?_eq_getElem hi
  rcases Nat.eq_zero_or_pos i with e | e
  · subst e
    rw [h.2.1] at h0
    rw [← Option.some.inj h0]
    rfl
  · have := h.2.2 ((i - 1) / 49) ((i - 1) % 49) (by omega) (Nat.mod_lt _ (by decide))
    rw [show 1 + (i - 1) / 49 * 49 + (i - 1) % 49 = i by omega, h0] at this
    rw [Option.some.inj this]
    rfl
theorem grown_below {a b : World} {l : Nat} (h : Below a.heap.size a b) : a.grownBy b (some l) := ⟨h.os, h.tape, h.output, h.size, fun k hk _ => h.block k hk⟩
/-- All but some old blocks lie as they lay. -/
def Same (X : Nat → Prop) (W W' : World) : Prop := W.heap.size ≤ W'.heap.size ∧ ∀ k, k < W.heap.size → ¬ X k → W'.heap[k]? = W.heap[k]?
theorem Same.trans {X : Nat → Prop} {a b c : World} (h : Same X a b) (k : Same X b c) : Same X a c := ⟨Nat.le_trans h.1 k.1, fun i hi hx => (k.2 i (Nat.lt_of_lt_of_le hi h.1) hx).trans (h.2 i hi hx)⟩
theorem Same.grown {X : Nat → Prop} {a b : World} {l : Nat} (h : a.grownBy b (some l)) (hl : X l) : Same X a b := ⟨h.size, fun k hk hx => h.block k hk (fun e => by cases e; exact hx hl)⟩
theorem Same.below {X : Nat → Prop} {a b : World} (h : Below a.heap.size a b) : Same X a b := ⟨h.size, fun k hk _ => h.block k hk⟩
theorem Same.cel {X : Nat → Prop} {a b : World} {B : Nat} {t : TypeId} {vs : Array Value} (h : Cel a B t vs) (k : Same X a b) (hx : ¬ X B) : Cel b B t vs := (k.2 B h.lt hx).trans h
/-- What a round does: it goes on; it has said 'no more'. -/
structure Round (l B0 : Nat) (X : Nat → Prop) (Rdy : World → Prop) (Stp : List Nat → World → Prop) : Prop where
  low : X l
  old : ∀ k, X k → k < B0
  rcd : ∀ W, Rdy W → ∃ r, W.heap[l]? = some (.loop r)
  below : ∀ W W', Rdy W → Below B0 W W' → Rdy W'
  go : ∀ W v, Rdy W → YieldAt Fence.wide 0 Tryz.prog l #[v, .bool true] W fun e W' => e = .returned (.bool true) ∧ Rdy W' ∧ W.grownBy W' (some l)
  stop : ∀ W v s, Rdy W → Sl W 1 v (natsV s) → YieldAt Fence.wide 0 Tryz.prog l #[v, .bool false] W fun e W' => e = .returned (.bool false) ∧ Stp s W' ∧ Same X W W'
/-- What the closure does. -/
def FromP (l : Nat) (X : Nat → Prop) (Rdy : World → Prop) (Stp : List Nat → World → Prop) (r : Option (List Nat)) (W : World) (e : Ending) (W' : World) : Prop :=
  (e = .returned (.bool true) ∧ r = none ∧ Rdy W' ∧ W.grownBy W' (some l)) ∨ (e = .returned (.bool false) ∧ ∃ s, r = some s ∧ Stp s W' ∧ Same X W W')
end

section
open Go Go.RowKit Go.Shelf
attribute [local go_sem] Oper.semAt_some

/-- What is shown of the closure where d + 1 facts are still to be chosen. -/
def FromS (l bn bm by_ bf : Nat) (A : Option Addr) (n c : Nat) (F : Option Addr) (m dd : Nat) (many : Nat) (ps : List ByteArray) (fs : List Fa) (B0 : Nat) (X : Nat → Prop) (Rdy : World → Prop) (Stp : List Nat → World → Prop) (d : Nat) : Prop :=
  ∀ (B : Nat) (D : Mat) (vs : Array Value) (set : List Nat) (v : Value) (W : World), set.length + d + 1 = many → (∀ k ∈ set, k < fs.length) → B0 ≤ W.heap.size → FrC W l bn bm by_ bf A n c F m dd many ps fs → Rdy W → Cel W B 134 vs → LvV vs (.slice A n c) D → Good ps.length D → Sl W 1 v (natsV set) →
    Calls Tryz.prog 111 #[.pointer (some ⟨B, 0, none⟩), v, .pointer (some ⟨bn, 0, none⟩), .pointer (some ⟨bm, 0, none⟩), .pointer (some ⟨by_, 0, none⟩), .pointer (some ⟨bf, 0, none⟩)] W (FromP l X Rdy Stp (srch ps fs d D set (nxt set)) W)
set_option maxRecDepth 100000 in
set_option maxHeartbeats 4000000 in
theorem from_step (l bn bm by_ bf : Nat) (A : Option Addr) (n c : Nat) (F : Option Addr) (m dd : Nat) (many : Nat) (ps : List ByteArray) (fs : List Fa) (B0 : Nat) (X : Nat → Prop) (Rdy : World → Prop) (Stp : List Nat → World → Prop) (R : Round l B0 X Rdy Stp) (hp : ps.length ≤ 24) (hf : AllAbout ps fs) (hfew : fs.length ≤ 48) (hmany : many ≤ 4) (d : Nat)
    (ih : ∀ d', d = d' + 1 → FromS l bn bm by_ bf A n c F m dd many ps fs B0 X Rdy Stp d') : FromS l bn bm by_ bf A n c F m dd many ps fs B0 X Rdy Stp d := by
  intro B D vs set v W hlen hset hB0 hFr hRd hC hV hG hv
  obtain ⟨A1, n1, c1, rfl, hn1, hcap1, hcm1, hcl1⟩ := hv.open2 (by decide)
  rw [natsV_length] at hn1
  have hn1' : n1 = set.length := by omega
  obtain ⟨en, em, hc1, hc2, hc3, hc4⟩ := hFr.data.many
  subst en
  subst em
  have HIH := Lib.hid ih
  have HCl := Lib.hid hcl1
  have HV := Lib.hid hV
  have HG := Lib.hid hG
  have HS := Lib.hid hv
  have HC := Lib.hid hC
  have HFr := Lib.hid hFr
  have HR := Lib.hid hRd
  have HB0 := Lib.hid hB0
  have HSet := Lib.hid hset
  have HLen := Lib.hid hlen
  have HN1 := Lib.hid hn1'
  have HR0 := Lib.hid R
  have HF := Lib.hid hf
  have hn4 : n1 ≤ 3 := by omega
  clear ih hcl1 hV hG hv hC hFr hRd hB0 hset hlen hn1' hn1 R hf
  go_enter Tryz.func111, Tryz.ntmps111
  go_upto_if 16 with fail
  go_cut [9] (fun t wx => t = .int .i64 ((nxt set : Nat) : Int) ∧ wx = W)
  case first =>
    by_cases h0 : 0 < n1
    · obtain ⟨b, o, rfl, _, hce⟩ := HCl.out h0
      obtain ⟨pre, k, e⟩ : ∃ pre k, set = pre ++ [k] := by
        have hne : set ≠ [] := fun e => by have := HN1.out; rw [e] at this; simp at this; omega
        exact ⟨set.dropLast, set.getLast hne, (List.dropLast_concat_getLast hne).symm⟩
      have hk := HSet.out k (by rw [e]; simp)
      have hc := hce (n1 - 1) (.int .i64 (k : Int)) (by
        have := HN1.out
        rw [e] at this ⊢
        simp at this
        rw [this, natsV_append, List.getElem?_append_right (by rw [natsV_length]; omega), natsV_length]
        simp [natsV])
      have hnx := nxt_snoc pre k
      rw [← e] at hnx
      have hw : IntKind.i64.wrap ((n1 : Int) - 1) = ((n1 - 1 : Nat) : Int) := by rw [IntWalk.i64_in _ (by omega)]; omega
      have HX := Lib.hid hnx
      have hkk : (k : Int) < 48 := by omega
      clear e hce hnx hk
      go_wp2
      go_meet
      exact ⟨by rw [HX.out]; rfl, rfl⟩
    · have HX := Lib.hid (show nxt set = 0 by
        have := HN1.out
        have e : set = [] := List.length_eq_zero_iff.1 (by omega)
        rw [e]
        rfl)
      go_wp2
      go_meet
      exact ⟨by rw [HX.out]; rfl, rfl⟩
  case rest =>
    obtain ⟨rfl, hwc⟩ := hcut
    replace hwc := hwc.symm
    subst hwc
    have HNx := Lib.hid (show nxt set ≤ fs.length by
      rcases List.eq_nil_or_concat set with e | ⟨pre, k, e⟩
      · rw [e]; simp [nxt]
      · rw [List.concat_eq_append] at e; rw [e, nxt_snoc]; have := HSet.out k (by rw [e]; simp); omega)
    have HM := Lib.hid (show many = set.length + d + 1 from HLen.out.symm)
    have HW := Lib.hid (HR0.out.rcd W HR.out)
    have HFc := Lib.hid (fun q => HFr.out.data.fact q)
    go_wp2
    go_loopw [10] (fun t wr => ∃ j : Nat, t = .int .i64 j ∧ j ≤ fs.length ∧ Hid (srch ps fs d D set (nxt set) = srch ps fs d D set j) ∧ Hid (Rdy wr) ∧ Hid (W.grownBy wr (some l))) (fun t _ => fs.length - (intOf t).toNat)
    case atStart => exact ⟨nxt set, rfl, HNx.out, rfl, HR.out, grown_refl _ _⟩
    case round =>
      clear HR
      obtain ⟨j, rfl, hj, HE, HR, HGr⟩ := hrel
      have HK := Lib.hid (KC.loop HW.out HGr.out)
      have HFq := Lib.hid (HFr.out.loop HW.out HGr.out)
      have HCq := Lib.hid (HC.out.loop HW.out HGr.out)
      have HSq := Lib.hid (HS.out.kc HK.out)
      have HB0q := Lib.hid (Nat.le_trans HB0.out HGr.out.size)
      have z0 := HFq.out.net.cell 0 _ rfl
      have z1 := HFq.out.net.cell 1 _ rfl
      by_cases hlt : j < fs.length
      · have hji : (j : Int) < (fs.length : Int) := by omega
        go_wp2_with fail
        refine (cloneI _ set wr HSq.out (by have := HLen.out; omega)).mono ?_
        rintro e w1 ⟨v1, rfl, ho1, hb1⟩
        obtain ⟨A2, c2, e2, _⟩ := own_shape ho1
        subst e2
        have HO1 := Lib.hid (ho1.alloc (.cells #[.int .i64 (j : Int)] 3))
        have hb2 := hb1.alloc hb1.size (.cells #[.int .i64 (j : Int)] 3)
        have HB2 := Lib.hid hb2
        have HS1 := Lib.hid (Sl.new (s := 1) w1 3 1 1 #[.int .i64 (j : Int)] rfl (Nat.le_refl _) (by decide))
        have HL3 := Lib.hid (show set.length ≤ 3 by have := HLen.out; omega)
        obtain ⟨L, hL⟩ : ∃ L, set.length + 1 = L := ⟨_, rfl⟩
        have HL := Lib.hid hL
        clear hL
        clear ho1 hb1 hb2 z0 z1
        go_upto_region 8 with (at_builtin; refine appInt _ _ rfl rfl rfl rfl HO1.out HS1.out (by simp [Value.oneCell']) (N := L) (by have := HL.out; simp; omega) (by have := HL3.out; have := HL.out; omega) HB2.out.size ?_; intro A3 c3 w3 hap)
        have HB3 := Lib.hid (below_of_own hap.grown HO1.out HB2.out (Nat.le_refl _))
        have HO3 := Lib.hid hap.own
        have HC3 := Lib.hid (HCq.out.below HCq.out.lt HB3.out)
        clear hap HO1 HB2 HS1
        go_upto_region 9 with (first
          | (refine wp_load_row 134 _ rfl B rfl 134 vs (0, 0) _ HC3.out Tryz.underlying134 rfl (by rw [HV.out.1]; exact infoLives) ?_)
          | (refine wp_store_row 134 _ _ rfl w3.heap.size vs rfl rfl 134 Tryz.zeroCells134 (World.alloc_heap_new _ _) (by rw [HV.out.1]; exact infoLives) (by rw [HV.out.1]; exact zeroLives) HV.out.one ?_))
        rw [World.setRow_alloc_new]
        have HBa := Lib.hid (HB3.out.alloc HB3.out.size (.cells vs 134))
        have HCa := Lib.hid (Cel.new w3 134 vs)
        have HOa := Lib.hid (HO3.out.alloc (.cells vs 134))
        have HZa := Lib.hid (show wr.heap.size ≤ w3.heap.size from HB3.out.size)
        have HNe := Lib.hid (fun g q => (own_lt HO3.out (g := g) q))
        clear HB3 HC3 HO3
        obtain ⟨Ba, hBa⟩ : ∃ Ba, w3.heap.size = Ba := ⟨_, rfl⟩
        rw [hBa] at HCa HZa HNe ⊢
        generalize w3.alloc (.cells vs 134) = Wa at *
        clear hBa
        have HFa := Lib.hid (HFq.out.below HBa.out)
        have hget : fs[j]? = some fs[j] := List.getElem?_eq_getElem hlt
        have hab := HF.out _ (List.getElem_mem hlt)
        obtain ⟨b0, o0, eF, hb, hce⟩ := HFa.out.data.fact (by omega)
        obtain ⟨g1, g2, g3, g4⟩ := hce j _ hget
        have z1 := HFa.out.net.cell 1 _ rfl
        have HAd := Lib.hid (padd_any Ba ps fs[j] D (.slice A ps.length c) vs Wa HCa.out HV.out HFa.out.data.people hp HG.out hab)
        have HGet := Lib.hid hget
        clear hce hget hab
        unfold faA at HAd
        generalize fs[j] = f at *
        obtain ⟨q, fa, fb, ft⟩ := f
        simp only at g1 g2 g3 g4 HAd
        subst eF
        go_wp2_with fail
        refine HAd.out.mono ?_
        rintro e w5 ⟨rfl, hg5, hr5⟩
        have HB5 := Lib.hid (HBa.out.grown hg5 HBa.out.size (fun i e => by cases e; exact HZa.out))
        have HF5 := Lib.hid (HFq.out.below HB5.out)
        have HRd5 := Lib.hid (HR0.out.below _ _ HR.out (HB5.out.mono HB0q.out))
        have HO5 := Lib.hid (own_keep HOa.out hg5 (fun g q e => by cases e; exact Nat.lt_irrefl _ (HNe.out _ q)))
        have z2 := HF5.out.many.cell 0 (.int .i64 (many : Int)) rfl
        have z3 := HF5.out.yield.cell 0 (.func (.yield l) #[] #[]) rfl
        have HX5 := Lib.hid hr5
        have HSl := Lib.hid (show Sl w5 1 (.slice A3 L c3) (natsV (set ++ [j])) by rw [natsV_append]; exact Sl.of_own HO5.out)
        clear hg5 hr5 g1 g2 g3 g4 z1 HAd HFa HBa HCa HOa HNe HO5
        cases hq : amL D (boundsF ps ⟨q, fa, fb, ft⟩) with
        | none =>
          have HQ := Lib.hid hq
          clear hq
          simp only [Option.isSome_none]
          by_cases hd : d = 0
          · subst hd
            have ht : ((L : Int) == (many : Int)) = true := by rw [beq_iff_eq]; have := HL.out; have := HLen.out; omega
            have HS1 := Lib.hid (srch_some (set := set) (d := 0) hlt (srchAt_none0 (set := set) HGet.out HQ.out))
            obtain ⟨fn, tmps, assign, body, hy, hR⟩ := yield_deep 5 (HR0.out.stop w5 _ _ HRd5.out HSl.out)
            go_upto_region 11 with fail
            refine (wpIn_wide (n := 6)).1 ?_
            gi_wp2_with (refine hR.mono ?_; clear hR; rintro e w6 ⟨rfl, hst, hsm⟩)
            have HSt := Lib.hid hst
            have HSm := Lib.hid (((Same.grown HGr.out HR0.out.low).trans (Same.below HB5.out)).trans hsm)
            clear hst hsm hy z2 z3
            go_wp2
            go_ret
            exact .inr ⟨rfl, _, HE.out.trans HS1.out, HSt.out, HSm.out⟩
          · obtain ⟨d', rfl⟩ : ∃ d', d = d' + 1 := ⟨d - 1, by omega⟩
            have ht : ((L : Int) == (many : Int)) = false := by rw [beq_eq_false_iff_ne]; have := HL.out; have := HLen.out; omega
            have HS1 := Lib.hid (srch_next (set := set) (d := d' + 1) (D := D) (ps := ps) hlt (srchAt_none1 HGet.out HQ.out))
            have HG5 := Lib.hid (HGr.out.trans (grown_below (l := l) HB5.out))
            go_wp2
            go_roundw
            case rel => exact ⟨j + 1, by go_num, by omega, HE.out.trans HS1.out, HRd5.out, HG5.out⟩
            case measure => simp [intOf]; omega
        | some E =>
          have HQ := Lib.hid hq
          clear hq
          simp only [Option.isSome_some]
          by_cases hd : d = 0
          · subst hd
            have ht : ((L : Int) == (many : Int)) = true := by rw [beq_iff_eq]; have := HL.out; have := HLen.out; omega
            have HS1 := Lib.hid (srch_next (set := set) (d := 0) (D := D) (ps := ps) hlt (srchAt_some0 HGet.out HQ.out))
            obtain ⟨fn, tmps, assign, body, hy, hR⟩ := yield_deep 5 (HR0.out.go w5 (.slice A3 L c3) HRd5.out)
            go_upto_region 11 with fail
            refine (wpIn_wide (n := 6)).1 ?_
            gi_wp2_with (refine hR.mono ?_; clear hR; rintro e w6 ⟨rfl, hrd, hg6⟩)
            have HRd6 := Lib.hid hrd
            have HG6 := Lib.hid ((HGr.out.trans (grown_below (l := l) HB5.out)).trans hg6)
            clear hrd hg6 hy z2 z3
            go_wp2
            go_roundw
            case rel => exact ⟨j + 1, by go_num, by omega, HE.out.trans HS1.out, HRd6.out, HG6.out⟩
            case measure => simp [intOf]; omega
          · obtain ⟨d', rfl⟩ : ∃ d', d = d' + 1 := ⟨d - 1, by omega⟩
            have ht : ((L : Int) == (many : Int)) = false := by rw [beq_eq_false_iff_ne]; have := HL.out; have := HLen.out; omega
            have HS1 := Lib.hid (srchAt_some1 (set := set) (d := d') (D := D) (ps := ps) HGet.out HQ.out)
            obtain ⟨vs', hV', hC'⟩ := HX5.out E HQ.out
            have hGE := (amL_some HG.out (boundsF_in (HF.out _ (List.mem_of_getElem? HGet.out))) HQ.out).1
            have HCall := Lib.hid (HIH.out d' rfl Ba E vs' (set ++ [j]) (.slice A3 L c3) w5 (by have := HLen.out; simp; omega) (fun k hk => by
              rcases List.mem_append.1 hk with q | q
              · exact HSet.out k q
              · rw [List.mem_singleton.1 q]; exact hlt) (Nat.le_trans HB0q.out HB5.out.size) HF5.out HRd5.out hC' hV' hGE HSl.out)
            rw [nxt_snoc] at HCall
            have z4 := HF5.out.frm.cell 0 (.func (.func 111) #[] #[.pointer (some ⟨bn, 0, none⟩), .pointer (some ⟨bm, 0, none⟩), .pointer (some ⟨by_, 0, none⟩), .pointer (some ⟨bf, 0, none⟩)]) rfl
            clear hV' hC' hGE
            go_wp2_with fail
            refine HCall.out.mono ?_
            rintro e w6 (⟨rfl, hn6, hrd, hg6⟩ | ⟨rfl, s6, hs6, hst, hsm⟩)
            · have HRd6 := Lib.hid hrd
              have HG6 := Lib.hid ((HGr.out.trans (grown_below (l := l) HB5.out)).trans hg6)
              have HS2 := Lib.hid (srch_next (set := set) (d := d' + 1) (D := D) (ps := ps) hlt (HS1.out.trans hn6))
              clear hrd hg6 hn6 z2 z3 z4
              go_wp2
              go_roundw
              case rel => exact ⟨j + 1, by go_num, by omega, HE.out.trans HS2.out, HRd6.out, HG6.out⟩
              case measure => simp [intOf]; omega
            · have HSt := Lib.hid hst
              have HS2 := Lib.hid (srch_some (set := set) (d := d' + 1) (D := D) (ps := ps) hlt (HS1.out.trans hs6))
              have HSm := Lib.hid (((Same.grown HGr.out HR0.out.low).trans (Same.below HB5.out)).trans hsm)
              clear hst hs6 hsm z2 z3 z4
              go_wp2
              go_ret
              exact .inr ⟨rfl, _, HE.out.trans HS2.out, HSt.out, HSm.out⟩
      · have HS1 := Lib.hid (srch_end (ps := ps) (fs := fs) (d := d) (D := D) (set := set) hlt)
        go_wp2
        go_ret
        exact .inl ⟨rfl, HE.out.trans HS1.out, HR.out, HGr.out⟩
theorem from_any (l bn bm by_ bf : Nat) (A : Option Addr) (n c : Nat) (F : Option Addr) (m dd : Nat) (many : Nat) (ps : List ByteArray) (fs : List Fa) (B0 : Nat) (X : Nat → Prop) (Rdy : World → Prop) (Stp : List Nat → World → Prop) (R : Round l B0 X Rdy Stp) (hp : ps.length ≤ 24) (hf : AllAbout ps fs) (hfew : fs.length ≤ 48) (hmany : many ≤ 4) : ∀ d, FromS l bn bm by_ bf A n c F m dd many ps fs B0 X Rdy Stp d := by
  intro d
  induction d with
  | zero => exact from_step l bn bm by_ bf A n c F m dd many ps fs B0 X Rdy Stp R hp hf hfew hmany 0 (fun d' e => by omega)
  | succ d ih => exact from_step l bn bm by_ bf A n c F m dd many ps fs B0 X Rdy Stp R hp hf hfew hmany (d + 1) (fun d' e => (Nat.succ.inj e) ▸ ih)
end

section
open Go Go.RowKit Go.Shelf
attribute [local go_sem] Oper.semAt_some

/-- What the iterator does. -/
def SetsP (X : Nat → Prop) (Rdy : World → Prop) (Stp : List Nat → World → Prop) (r : Option (List Nat)) (W : World) (e : Ending) (W' : World) : Prop :=
  (∃ v, e = .returned v) ∧ ((r = none ∧ Rdy W' ∧ Same X W W') ∨ ∃ s, r = some s ∧ Stp s W' ∧ Same X W W')
set_option maxRecDepth 100000 in
set_option maxHeartbeats 4000000 in
theorem sets1_any (l bn bm : Nat) (A : Option Addr) (n c : Nat) (F : Option Addr) (m dd : Nat) (many : Nat) (ps : List ByteArray) (fs : List Fa) (B0 : Nat) (X : Nat → Prop) (Rdy : World → Prop) (Stp : List Nat → World → Prop) (R : Round l B0 X Rdy Stp) (hp : ps.length ≤ 24) (hf : AllAbout ps fs) (hfew : fs.length ≤ 48) (hm1 : 1 ≤ many) (hmany : many ≤ 4) (W : World) (hB0 : B0 ≤ W.heap.size) (hbn : Cel W bn 25 #[.slice A n c, .slice F m dd]) (hbm : Cel W bm 3 #[.int .i64 (many : Int)]) (hN : NetC W A n c F m dd ps fs) (hRd : Rdy W) (hxn : ¬ X bn) :
    Calls Tryz.prog 110 #[.func (.yield l) #[] #[], .pointer (some ⟨bn, 0, none⟩), .pointer (some ⟨bm, 0, none⟩)] W (SetsP X Rdy Stp (srch ps fs (many - 1) (bornE ps.length 0 0) [] 0) W) := by
  have hmf : ∀ (fn : Fn) (first cap : Array Value) (w : World), (Instr.makeFunc fn first cap).run Tryz.prog w = .ok (.func fn first cap) w := fun _ _ _ _ => rfl
  obtain ⟨en, em, _, _, _, _⟩ := hN.many
  subst en
  subst em
  have Yf := Cel.new (W.alloc (.cells #[.func (.yield l) #[] #[]] 156)) 157 #[Value.nilFunc]
  rw [World.size_alloc] at Yf
  have c0 := Yf.cell 0 Value.nilFunc rfl
  have f0 := Yf.frozen 0
  have hst : (store ⟨W.heap.size + 1, 0, none⟩ (.func (.func 111) #[] #[.pointer (some ⟨bn, 0, none⟩), .pointer (some ⟨bm, 0, none⟩), .pointer (some ⟨W.heap.size, 0, none⟩), .pointer (some ⟨W.heap.size + 1, 0, none⟩)])).run Tryz.prog ((W.alloc (.cells #[.func (.yield l) #[] #[]] 156)).alloc (.cells #[Value.nilFunc] 157)) = .ok () (((W.alloc (.cells #[.func (.yield l) #[] #[]] 156)).alloc (.cells #[Value.nilFunc] 157)).setCell ⟨W.heap.size + 1, 0, none⟩ (.func (.func 111) #[] #[.pointer (some ⟨bn, 0, none⟩), .pointer (some ⟨bm, 0, none⟩), .pointer (some ⟨W.heap.size, 0, none⟩), .pointer (some ⟨W.heap.size + 1, 0, none⟩)])) := by
    rw [run_store _ _ _ _ _ rfl]
    simp only [c0, f0]
    rfl
  have Zy := (Cel.new W 156 #[.func (.yield l) #[] #[]]).alloc (.cells #[.func (.func 111) #[] #[.pointer (some ⟨bn, 0, none⟩), .pointer (some ⟨bm, 0, none⟩), .pointer (some ⟨W.heap.size, 0, none⟩), .pointer (some ⟨W.heap.size + 1, 0, none⟩)]] 157)
  have Zf := Cel.new (W.alloc (.cells #[.func (.yield l) #[] #[]] 156)) 157 #[.func (.func 111) #[] #[.pointer (some ⟨bn, 0, none⟩), .pointer (some ⟨bm, 0, none⟩), .pointer (some ⟨W.heap.size, 0, none⟩), .pointer (some ⟨W.heap.size + 1, 0, none⟩)]]
  rw [World.size_alloc] at Zf
  have hb1 := (below_alloc' W (.cells #[.func (.yield l) #[] #[]] 156)).alloc (by simp) (.cells #[.func (.func 111) #[] #[.pointer (some ⟨bn, 0, none⟩), .pointer (some ⟨bm, 0, none⟩), .pointer (some ⟨W.heap.size, 0, none⟩), .pointer (some ⟨W.heap.size + 1, 0, none⟩)]] 157)
  have HR0 := Lib.hid R
  have HBn := Lib.hid hbn
  have HBm := Lib.hid hbm
  have HN := Lib.hid hN
  have HRd := Lib.hid hRd
  have HF := Lib.hid hf
  have HB0 := Lib.hid hB0
  have HX := Lib.hid hxn
  have HZf := Lib.hid Zf
  have HZy := Lib.hid Zy
  have HB1 := Lib.hid hb1
  clear R hbn hbm hN hRd hf hB0 hxn Zf Zy hb1 Yf
  go_enter Tryz.func110, Tryz.ntmps110
  go_upto_region 3 with fail
  obtain ⟨V, hV⟩ : ∃ V, ((W.alloc (.cells #[.func (.yield l) #[] #[]] 156)).alloc (.cells #[.func (.func 111) #[] #[.pointer (some ⟨bn, 0, none⟩), .pointer (some ⟨bm, 0, none⟩), .pointer (some ⟨W.heap.size, 0, none⟩), .pointer (some ⟨W.heap.size + 1, 0, none⟩)]] 157)) = V := ⟨_, rfl⟩
  rw [hV] at HZf HZy HB1 ⊢
  clear hV c0 f0 hst
  have HD := Lib.hid (show Below W.heap.size W V.drew from below_drew HB1.out)
  have HNe : ∀ k, X k → k < W.heap.size := fun k hk => Nat.lt_of_lt_of_le (HR0.out.old k hk) HB0.out
  have HNX := Lib.hid HNe
  clear HNe
  refine wp_region_held_drew (S := fun w' => Cel w' bn 25 #[.slice A ps.length c, .slice F fs.length dd] ∧ Cel w' (W.heap.size + 1) 157 #[.func (.func 111) #[] #[.pointer (some ⟨bn, 0, none⟩), .pointer (some ⟨bm, 0, none⟩), .pointer (some ⟨W.heap.size, 0, none⟩), .pointer (some ⟨W.heap.size + 1, 0, none⟩)]]) (by kernel_rfl) ⟨HBn.out.below HBn.out.lt HD.out, HZf.out⟩ (fun hHeld => ?_)
  have HFU := Lib.hid (show FrC V.drew l bn bm W.heap.size (W.heap.size + 1) A ps.length c F fs.length dd many ps fs from ⟨HBn.out.below HBn.out.lt HD.out, HBm.out.below HBm.out.lt HD.out, HZy.out, HZf.out, HN.out.below HD.out⟩)
  clear HZf HZy HB1
  generalize V.drew = U at *
  refine wpAnyH_takeD (i := 0) (v := ?_) 6 rfl (by kernel_rfl) (by kernel_rfl) (by kernel_rfl) (fun _ _ _ h => h) (Or.inl ⟨by rfl, ?_⟩) (by assumption) rfl ?_
  rotate_left
  · intro w' hSw
    have g1 := (show Cel w' bn 25 #[.slice A ps.length c, .slice F fs.length dd] ∧ Cel w' (W.heap.size + 1) 157 #[.func (.func 111) #[] #[.pointer (some ⟨bn, 0, none⟩), .pointer (some ⟨bm, 0, none⟩), .pointer (some ⟨W.heap.size, 0, none⟩), .pointer (some ⟨W.heap.size + 1, 0, none⟩)]] from hSw).1.cell 0 (.slice A ps.length c) rfl; have g2 := (show Cel w' bn 25 #[.slice A ps.length c, .slice F fs.length dd] ∧ Cel w' (W.heap.size + 1) 157 #[.func (.func 111) #[] #[.pointer (some ⟨bn, 0, none⟩), .pointer (some ⟨bm, 0, none⟩), .pointer (some ⟨W.heap.size, 0, none⟩), .pointer (some ⟨W.heap.size + 1, 0, none⟩)]] from hSw).2.cell 0 (.func (.func 111) #[] #[.pointer (some ⟨bn, 0, none⟩), .pointer (some ⟨bm, 0, none⟩), .pointer (some ⟨W.heap.size, 0, none⟩), .pointer (some ⟨W.heap.size + 1, 0, none⟩)]) rfl
    go_simp <;> with_reducible rfl
  simp only [List.setIfInBounds_toArray, List.set_cons_succ, List.set_cons_zero]
  refine wpAnyH_takeD (i := 1) (v := ?_) 7 rfl (by kernel_rfl) (by kernel_rfl) (by kernel_rfl) (fun _ _ _ h => h) (Or.inl ⟨by rfl, ?_⟩) (by assumption) rfl ?_
  rotate_left
  · intro w' hSw
    have g1 := (show Cel w' bn 25 #[.slice A ps.length c, .slice F fs.length dd] ∧ Cel w' (W.heap.size + 1) 157 #[.func (.func 111) #[] #[.pointer (some ⟨bn, 0, none⟩), .pointer (some ⟨bm, 0, none⟩), .pointer (some ⟨W.heap.size, 0, none⟩), .pointer (some ⟨W.heap.size + 1, 0, none⟩)]] from hSw).1.cell 0 (.slice A ps.length c) rfl; have g2 := (show Cel w' bn 25 #[.slice A ps.length c, .slice F fs.length dd] ∧ Cel w' (W.heap.size + 1) 157 #[.func (.func 111) #[] #[.pointer (some ⟨bn, 0, none⟩), .pointer (some ⟨bm, 0, none⟩), .pointer (some ⟨W.heap.size, 0, none⟩), .pointer (some ⟨W.heap.size + 1, 0, none⟩)]] from hSw).2.cell 0 (.func (.func 111) #[] #[.pointer (some ⟨bn, 0, none⟩), .pointer (some ⟨bm, 0, none⟩), .pointer (some ⟨W.heap.size, 0, none⟩), .pointer (some ⟨W.heap.size + 1, 0, none⟩)]) rfl
    go_simp <;> with_reducible rfl
  simp only [List.setIfInBounds_toArray, List.set_cons_succ, List.set_cons_zero]
  refine wpAnyH_takeD (i := 2) (v := ?_) 8 rfl (by kernel_rfl) (by kernel_rfl) (by kernel_rfl) (fun _ _ _ h => h) (Or.inl ⟨by rfl, ?_⟩) (by assumption) rfl ?_
  rotate_left
  · intro w' hSw
    have g1 := (show Cel w' bn 25 #[.slice A ps.length c, .slice F fs.length dd] ∧ Cel w' (W.heap.size + 1) 157 #[.func (.func 111) #[] #[.pointer (some ⟨bn, 0, none⟩), .pointer (some ⟨bm, 0, none⟩), .pointer (some ⟨W.heap.size, 0, none⟩), .pointer (some ⟨W.heap.size + 1, 0, none⟩)]] from hSw).1.cell 0 (.slice A ps.length c) rfl; have g2 := (show Cel w' bn 25 #[.slice A ps.length c, .slice F fs.length dd] ∧ Cel w' (W.heap.size + 1) 157 #[.func (.func 111) #[] #[.pointer (some ⟨bn, 0, none⟩), .pointer (some ⟨bm, 0, none⟩), .pointer (some ⟨W.heap.size, 0, none⟩), .pointer (some ⟨W.heap.size + 1, 0, none⟩)]] from hSw).2.cell 0 (.func (.func 111) #[] #[.pointer (some ⟨bn, 0, none⟩), .pointer (some ⟨bm, 0, none⟩), .pointer (some ⟨W.heap.size, 0, none⟩), .pointer (some ⟨W.heap.size + 1, 0, none⟩)]) rfl
    go_simp <;> with_reducible rfl
  simp only [List.setIfInBounds_toArray, List.set_cons_succ, List.set_cons_zero]
  refine wpAnyH_ready (rs := [3]) (by kernel_rfl) (by simp) ?_
  refine AllReadyH.cons (o := _) rfl (fun K hK => ?_) AllReadyH.nil
  go_simp
  refine (born_any A ps.length c U hp).mono ?_
  rintro e w1 ⟨rfl, hb1, vs, hV1, hC1⟩
  have HFU1 := Lib.hid (HFU.out.below hb1)
  have HV1 := Lib.hid hV1
  have HC1 := Lib.hid hC1
  have HBU := Lib.hid (HD.out.trans (hb1.mono HD.out.size))
  clear hV1 hC1 hb1
  refine hK.out _ _ ⟨HFU1.out.net, HFU1.out.frm⟩ (fun hHeld1 => ?_)
  clear hK K
  refine wpAnyH_ready (rs := [4]) (by kernel_rfl) (by simp) ?_
  refine AllReadyH.cons (o := _) rfl (fun K hK => ?_) AllReadyH.nil
  go_simp
  have hcc := from_any l bn bm W.heap.size (W.heap.size + 1) A ps.length c F fs.length dd many ps fs B0 X Rdy Stp HR0.out hp HF.out hfew hmany (many - 1) U.heap.size (bornE ps.length 0 0) vs [] (.slice none 0 0) w1 (by simp; omega) (fun k hk => by cases hk) (Nat.le_trans HB0.out HBU.out.size) HFU1.out (HR0.out.below _ _ HRd.out (HBU.out.mono HB0.out)) HC1.out HV1.out (born_good hp) (Sl.nil0 _ _)
  refine hcc.mono ?_
  rintro e w2 (⟨rfl, hr, hrd, hg⟩ | ⟨rfl, s, hr, hst, hsm⟩)
  · have hs2 : Same X w1 w2 := Same.grown hg HR0.out.low
    have HS := Lib.hid ((Same.below HBU.out).trans hs2)
    refine hK.out _ _ ⟨Same.cel HFU1.out.net hs2 HX.out, Same.cel HFU1.out.frm hs2 (fun q => by have := HNX.out _ q; omega)⟩ (fun hHeld2 => ?_)
    clear hK K hs2
    refine wpAnyH_done (by kernel_rfl) ?_ _
    go_wp2
    go_end0
    exact ⟨⟨_, rfl⟩, .inl ⟨hr, hrd, HS.out⟩⟩
  · have hs2 : Same X w1 w2 := hsm
    have HS := Lib.hid ((Same.below HBU.out).trans hs2)
    refine hK.out _ _ ⟨Same.cel HFU1.out.net hs2 HX.out, Same.cel HFU1.out.frm hs2 (fun q => by have := HNX.out _ q; omega)⟩ (fun hHeld2 => ?_)
    clear hK K hs2
    refine wpAnyH_done (by kernel_rfl) ?_ _
    go_wp2
    go_end0
    exact ⟨⟨_, rfl⟩, .inr ⟨s, hr, hst, HS.out⟩⟩
end

section
open Go Go.RowKit Go.Shelf
attribute [local go_sem] Oper.semAt_some

theorem sets_any (A : Option Addr) (n c : Nat) (F : Option Addr) (m dd : Nat) (many : Int) (w : World) :
    Calls Tryz.prog 75 #[.agg #[.slice A n c, .slice F m dd], .int .i64 many] w fun e w' => e = .returned (.func (.func 110) #[] #[.pointer (some ⟨w.heap.size, 0, none⟩), .pointer (some ⟨w.heap.size + 1, 0, none⟩)]) ∧ w' = (w.alloc (.cells #[.slice A n c, .slice F m dd] 25)).alloc (.cells #[.int .i64 many] 3) := by
  have hmf : ∀ (fn : Fn) (first cap : Array Value) (w : World), (Instr.makeFunc fn first cap).run Tryz.prog w = .ok (.func fn first cap) w := fun _ _ _ _ => rfl
  go_enter Tryz.func75, Tryz.ntmps75
  go_wp2
  go_ret
  exact ⟨rfl, rfl⟩
theorem below_putObj {a W : World} {n l : Nat} {o : Obj} (h : Below n a W) (hl : n ≤ l) : Below n a (W.putObj l o) :=
  ⟨h.os, h.tape, h.output, by rw [World.putObj_size]; exact h.size, fun k hk => (World.putObj_heap_other (by omega)).trans (h.block k hk)⟩
theorem Cel.putObj {W : World} {B l : Nat} {t : TypeId} {vs : Array Value} {o : Obj} (h : Cel W B t vs) (hne : B ≠ l) : Cel (W.putObj l o) B t vs := (World.putObj_heap_other hne).trans h
theorem Sl.putLoop {W : World} {l s : Nat} {v : Value} {xs : List Value} {o : Obj} {r : Loop} (h : Sl W s v xs) (hl : W.heap[l]? = some (.loop r)) : Sl (W.putObj l o) s v xs :=
  h.kc (KC.loop ⟨r, hl⟩ (grownBy_putObj' W l o))
theorem heap_setCell_loop {W : World} {p : Addr} {l : Nat} {r : Loop} (h : W.heap[l]? = some (.loop r)) (v : Value) : (W.setCell p v).heap[l]? = some (.loop r) := (KeepsOthers.setCell W p v).same l _ h rfl
theorem Sl.setNil {W : World} {p : Addr} {l : List Nat} {A : Option Addr} {n c : Nat} {v x : Value} (h : Sl W 1 v (natsV l)) (hp : W.cell? p = some (.slice A n c)) : Sl (W.setCell p x) 1 v (natsV l) :=
  h.setCell hp (fun u hu e => by
    obtain ⟨n, _, rfl⟩ := List.mem_map.1 hu
    cases e) x
theorem range_sets {n : Nat} {g : Operand} {pt : Array Tmp} {assign body : Code} {Q : Exit → Act → World → Prop} {a : Act} {w w0 : World} {bn bm r1 r2 : Nat} {A : Option Addr} {n1 c : Nat} {F : Option Addr} {m dd many : Nat} {ps : List ByteArray} {fs : List Fa}
    (h1 : 1 ≤ n) (hg : a.eval g = .func (.func 110) #[] #[.pointer (some ⟨bn, 0, none⟩), .pointer (some ⟨bm, 0, none⟩)]) (hpt : pt.size = 2)
    (hp : ps.length ≤ 24) (hf : AllAbout ps fs) (hfew : fs.length ≤ 48) (hm1 : 1 ≤ many) (hm4 : many ≤ 4)
    (hbn : Cel w bn 25 #[.slice A n1 c, .slice F m dd]) (hbm : Cel w bm 3 #[.int .i64 (many : Int)]) (hN : NetC w A n1 c F m dd ps fs)
    (hb0 : Below w0.heap.size w0 w) (hr1 : Cel w r1 47 #[.slice none 0 0]) (hr2 : Cel w r2 28 #[.int .i64 0]) (hl1 : w0.heap.size ≤ r1) (hl2 : w0.heap.size ≤ r2) (hne : r1 ≠ r2) (hn1 : bn ≠ r1) (hn2 : bn ≠ r2)
    (a1 : Value → Bool → Act)
    (hassign : ∀ (l : Nat) (v : Value) (b : Bool) (W : World) (K : Act → World → Prop), K (a1 v b) W → assign.wpIn (Fence.wide.inRound l) 0 Tryz.prog (Exit.then K (fun _ _ _ => False)) { tmps := (pt.zip #[v, .bool b]).foldl (fun t (p, v) => t.setIfInBounds p v) a.tmps, defers := [] } W)
    (hgo : ∀ (l : Nat) (v : Value) (W : World) (R : Exit → Act → World → Prop), (∀ a', R .normal a' W) → body.wpIn (Fence.wide.inRound l) 0 Tryz.prog R (a1 v true) W)
    (hstop : ∀ (l : Nat) (A : Option Addr) (n c : Nat) (W : World) (R : Exit → Act → World → Prop), Cel W r1 47 #[.slice none 0 0] → Cel W r2 28 #[.int .i64 0] → (∀ a', R .ret a' ((W.setCell ⟨r1, 0, none⟩ (.slice A n c)).setCell ⟨r2, 0, none⟩ (.int .i64 0))) → body.wpIn (Fence.wide.inRound l) 0 Tryz.prog R (a1 (.slice A n c) false) W)
    (hdone : ∀ W', srch ps fs (many - 1) (bornE ps.length 0 0) [] 0 = none → Below w0.heap.size w0 W' → w.heap.size ≤ W'.heap.size → (∀ k, k < w.heap.size → k ≠ r1 → k ≠ r2 → W'.heap[k]? = w.heap[k]?) → Cel W' r1 47 #[.slice none 0 0] → Cel W' r2 28 #[.int .i64 0] → W'.heap[w.heap.size]? = some (.deferred (some [])) → Q .normal { a with defers := { target := .collected w.heap.size, args := #[] } :: a.defers } W')
    (hret : ∀ W' s v, srch ps fs (many - 1) (bornE ps.length 0 0) [] 0 = some s → Below w0.heap.size w0 W' → w.heap.size ≤ W'.heap.size → (∀ k, k < w.heap.size → k ≠ r1 → k ≠ r2 → W'.heap[k]? = w.heap[k]?) → Cel W' r1 47 #[v] → Cel W' r2 28 #[.int .i64 0] → Sl W' 1 v (natsV s) → W'.heap[w.heap.size]? = some (.deferred (some [])) → Code.ret.wpIn Fence.wide n Tryz.prog Q { a with defers := { target := .collected w.heap.size, args := #[] } :: a.defers } W') :
    (Code.rangeFunc g pt assign body).wpIn Fence.wide n Tryz.prog Q a w := by
  refine range_tell rfl h1 hg trivial (enters_of Tryz.func110 (by kernel_rfl) rfl) (fun fn _ => ?_)
  have hlt1 := hr1.lt
  have hlt2 := hr2.lt
  have hb := hb0.size
  obtain ⟨D, hD⟩ : ∃ D, w.heap.size = D := ⟨_, rfl⟩
  obtain ⟨W1, hW1⟩ : ∃ W1, (w.alloc (.deferred (some []))).alloc (.loop (loopR fn a.tmps pt assign body w.heap.size .ready none)) = W1 := ⟨_, rfl⟩
  have hz : W1.heap.size = D + 2 := by rw [← hW1]; simp; omega
  have hbw : Below w.heap.size w W1 := by rw [← hW1]; exact (below_alloc' w _).alloc (by simp) _
  have hL : W1.heap[D + 1]? = some (.loop (loopR fn a.tmps pt assign body D .ready none)) := by
    rw [← hW1, ← hD]
    have := World.alloc_heap_new (w.alloc (.deferred (some []))) (.loop (loopR fn a.tmps pt assign body w.heap.size .ready none))
    rwa [World.size_alloc] at this
  have hK : W1.heap[D]? = some (.deferred (some [])) := by
    rw [← hW1, ← hD]
    exact (Below.heap_alloc _ _ _ (by simp)).trans (World.alloc_heap_new w _)
  rw [hW1]
  clear hW1
  rw [hD]
  simp only [hD] at hdone hret
  have hR : Round (D + 1) (D + 2) (fun k => k = D + 1 ∨ k = r1 ∨ k = r2)
      (fun W => W.heap[D + 1]? = some (.loop (loopR fn a.tmps pt assign body D .ready none)) ∧ Cel W r1 47 #[.slice none 0 0] ∧ Cel W r2 28 #[.int .i64 0] ∧ Below w0.heap.size w0 W)
      (fun s W => W.heap[D + 1]? = some (.loop (loopR fn a.tmps pt assign body D .done (some .ret))) ∧ ∃ v, Cel W r1 47 #[v] ∧ Cel W r2 28 #[.int .i64 0] ∧ Sl W 1 v (natsV s) ∧ Below w0.heap.size w0 W) := by
    refine ⟨.inl rfl, fun k hk => by omega, fun W h => ⟨_, h.1⟩, fun W W' h hb => ⟨(hb.block _ (by omega)).trans h.1, h.2.1.below (by omega) hb, h.2.2.1.below (by omega) hb, h.2.2.2.trans (hb.mono (by omega))⟩, ?_, ?_⟩
    · rintro W v ⟨e1, e2, e3, e4⟩
      refine yield_tell (fn := fn) (tm := a.tmps) (ps := pt) (assign := assign) (body := body) (D := D) trivial e1 (by simp [hpt]) (hassign _ v true W _ ⟨e1, ?_⟩)
      have hlt : D + 1 < W.heap.size := (Array.getElem?_eq_some_iff.1 e1).1
      refine hgo _ v _ _ (fun a' => ⟨World.putObj_heap_same hlt, rfl, ⟨World.putObj_heap_same (by simpa using hlt), ?_, ?_, ?_⟩, ?_⟩)
      · exact (e2.putObj (by omega)).putObj (by omega)
      · exact (e3.putObj (by omega)).putObj (by omega)
      · exact below_putObj (below_putObj e4 (by omega)) (by omega)
      · exact (grownBy_putObj' W (D + 1) _).trans (grownBy_putObj' _ (D + 1) _)
    · rintro W v s ⟨e1, e2, e3, e4⟩ hs
      obtain ⟨A', n', c', rfl, hs⟩ := hs.shape
      refine yield_tell (fn := fn) (tm := a.tmps) (ps := pt) (assign := assign) (body := body) (D := D) trivial e1 (by simp [hpt]) (hassign _ _ false W _ ⟨e1, ?_⟩)
      have hlt : D + 1 < W.heap.size := (Array.getElem?_eq_some_iff.1 e1).1
      have k1 := World.putObj_heap_same (w := W) (o := .loop (loopR fn a.tmps pt assign body D .busy none)) hlt
      have k2 := e2.putObj (l := D + 1) (o := .loop (loopR fn a.tmps pt assign body D .busy none)) (by omega)
      have k3 := e3.putObj (l := D + 1) (o := .loop (loopR fn a.tmps pt assign body D .busy none)) (by omega)
      have k4 := below_putObj (l := D + 1) (o := .loop (loopR fn a.tmps pt assign body D .busy none)) e4 (by omega)
      have k5 := Sl.putLoop (o := .loop (loopR fn a.tmps pt assign body D .busy none)) hs e1
      have k6 : Same (fun k => k = D + 1 ∨ k = r1 ∨ k = r2) W (W.putObj (D + 1) (.loop (loopR fn a.tmps pt assign body D .busy none))) := Same.grown (grownBy_putObj' _ _ _) (.inl rfl)
      generalize W.putObj (D + 1) (.loop (loopR fn a.tmps pt assign body D .busy none)) = U at *
      refine hstop _ A' n' c' U _ k2 k3 (fun a' => ?_)
      have j1 := heap_setCell_loop (p := ⟨r2, 0, none⟩) (heap_setCell_loop (p := ⟨r1, 0, none⟩) k1 (.slice A' n' c')) (.int .i64 0)
      have j2 := (k2.setAt 0 (.slice A' n' c')).other (p := ⟨r2, 0, none⟩) (by simp; omega) (.int .i64 0)
      have j3 := (k3.other (p := ⟨r1, 0, none⟩) (by simp; omega) (.slice A' n' c')).setAt 0 (.int .i64 0)
      have j4 := (k4.setCell (p := ⟨r1, 0, none⟩) hl1 (.slice A' n' c')).setCell (p := ⟨r2, 0, none⟩) hl2 (.int .i64 0)
      have j5 : Sl ((U.setCell ⟨r1, 0, none⟩ (.slice A' n' c')).setCell ⟨r2, 0, none⟩ (.int .i64 0)) 1 (.slice A' n' c') (natsV s) := by
        have q1 := k5.setNil (x := .slice A' n' c') (k2.cell 0 (.slice none 0 0) rfl)
        have q3 := k3.other (p := ⟨r1, 0, none⟩) (by simp; omega) (.slice A' n' c')
        refine q1.keep fun p u hu => ?_
        by_cases e : p = ⟨r2, 0, none⟩
        · subst e
          rw [q3.cell 0 (.int .i64 0) rfl] at hu
          cases hu
          exact ((q3.setAt 0 (.int .i64 0))).cell 0 _ rfl
        · rw [World.cell?_setCell_other]
          · exact hu
          · exact fun q => e q.symm
      have j6 : Same (fun k => k = D + 1 ∨ k = r1 ∨ k = r2) U ((U.setCell ⟨r1, 0, none⟩ (.slice A' n' c')).setCell ⟨r2, 0, none⟩ (.int .i64 0)) :=
        (Same.grown (grown_set U r1 0 _) (.inr (.inl rfl))).trans (Same.grown (grown_set _ r2 0 _) (.inr (.inr rfl)))
      generalize (U.setCell ⟨r1, 0, none⟩ (.slice A' n' c')).setCell ⟨r2, 0, none⟩ (.int .i64 0) = V at *
      have hlv : D + 1 < V.heap.size := (Array.getElem?_eq_some_iff.1 j1).1
      refine ⟨j1, rfl, ⟨World.putObj_heap_same hlv, .slice A' n' c', j2.putObj (by omega), j3.putObj (by omega), Sl.putLoop j5 j1, below_putObj j4 (by omega)⟩, (k6.trans j6).trans (Same.grown (grownBy_putObj' _ _ _) (.inl rfl))⟩
  have hbw0 : Below w0.heap.size w0 W1 := hb0.trans (hbw.mono (by omega))
  refine (callsIn_wide.2 (sets1_any (D + 1) bn bm A n1 c F m dd many ps fs (D + 2) _ _ _ hR hp hf hfew hm1 hm4 W1 (by omega) (hbn.below (by have := hbn.lt; omega) hbw) (hbm.below (by have := hbm.lt; omega) hbw) (hN.below hbw) ⟨hL, hr1.below (by omega) hbw, hr2.below (by omega) hbw, hbw0⟩ (by have := hbn.lt; omega))).mono ?_
  rintro e W2 ⟨hv, ⟨hs, ⟨e1, e2, e3, e4⟩, hsm⟩ | ⟨s, hs, ⟨e1, v, e2, e3, e5, e4⟩, hsm⟩⟩
  · refine ⟨hv, .ready, none, by simp, e1, ?_⟩
    refine hdone _ hs (below_putObj e4 (by omega)) ?_ ?_ (e2.putObj (by omega)) (e3.putObj (by omega)) ?_
    · rw [World.putObj_size]; have := hsm.1; omega
    · intro k hk q1 q2
      rw [World.putObj_heap_other (by omega), hsm.2 k (by omega) (by omega)]
      exact hbw.block k (by omega)
    · rw [World.putObj_heap_other (by omega), hsm.2 D (by omega) (by omega)]
      exact hK
  · refine ⟨hv, .done, some .ret, by simp, e1, ?_⟩
    refine hret _ s v hs (below_putObj e4 (by omega)) ?_ ?_ (e2.putObj (by omega)) (e3.putObj (by omega)) (Sl.putLoop e5 e1) ?_
    · rw [World.putObj_size]; have := hsm.1; omega
    · intro k hk q1 q2
      rw [World.putObj_heap_other (by omega), hsm.2 k (by omega) (by omega)]
      exact hbw.block k (by omega)
    · rw [World.putObj_heap_other (by omega), hsm.2 D (by omega) (by omega)]
      exact hK
end

section
open Go Go.RowKit Go.Shelf
attribute [local go_sem] Oper.semAt_some

/-- What Contradiction answers: a set, an error. -/
def contrV (ps : List ByteArray) (fs : List Fa) (most : Int) : List Nat × Int :=
  if checkF ps fs ≠ 0 then ([], checkF ps fs) else if most < 1 ∨ 4 < most then ([], 8) else match contrF ps fs most.toNat with
    | some s => (s, 0)
    | none => ([], 4)
def ContrP (r : List Nat × Int) (w : World) (e : Ending) (w' : World) : Prop := Below w.heap.size w w' ∧ ∃ v, e = .returned (.tuple #[v, .int .i64 r.2]) ∧ Sl w' 1 v (natsV r.1)
/-- The results' cells, where they have been written. -/
theorem contr_end (B : Nat) (w1 w : World) (x1 : Cel w1 (B + 1) 47 #[.slice none 0 0]) (x2 : Cel w1 (B + 1 + 1) 28 #[.int .i64 0]) (hB : Below w.heap.size w w1) (hw : w.heap.size ≤ B) (r : Int) (A : Option Addr) (n c : Nat) (l : List Nat) (hl : Sl ((w1.setCell ⟨B + 1, 0, none⟩ (.slice A n c)).setCell ⟨B + 1 + 1, 0, none⟩ (.int .i64 r)) 1 (.slice A n c) (natsV l)) (a : Act) (h4 : a.tmps.getD 4 undef = .pointer (some ⟨B + 1, 0, none⟩)) (h5 : a.tmps.getD 5 undef = .pointer (some ⟨B + 1 + 1, 0, none⟩)) (hd : a.defers = []) :
    bodyPost Tryz.prog Tryz.f24 (ContrP (l, r) w) .ret a ((w1.setCell ⟨B + 1, 0, none⟩ (.slice A n c)).setCell ⟨B + 1 + 1, 0, none⟩ (.int .i64 r)) := by
  have k1 := ((x1.setAt 0 (.slice A n c)).other (p := ⟨B + 1 + 1, 0, none⟩) (by simp) (.int .i64 r)).cell 0 (.slice A n c) rfl
  have k2 := ((x2.other (p := ⟨B + 1, 0, none⟩) (by simp) (.slice A n c)).setAt 0 (.int .i64 r)).cell 0 (.int .i64 r) rfl
  have h4' : a.tmps[4]?.getD undef = .pointer (some ⟨B + 1, 0, none⟩) := by simpa using h4
  have h5' : a.tmps[5]?.getD undef = .pointer (some ⟨B + 1 + 1, 0, none⟩) := by simpa using h5
  refine bodyPost_ret (v := .tuple #[.slice A n c, .int .i64 r]) (by simp [results, Tryz.results24, go_sem, h4', h5', k1, k2]) hd ⟨(hB.setCell (p := ⟨B + 1, 0, none⟩) (by simp; omega) _).setCell (p := ⟨B + 1 + 1, 0, none⟩) (by simp; omega) _, _, rfl, hl⟩
set_option maxRecDepth 100000 in
set_option maxHeartbeats 1000000 in
theorem contr_bad (r : Int) (hr : r = 3 ∨ r = 100) (A : Option Addr) (n c : Nat) (F : Option Addr) (m d : Nat) (ps : List ByteArray) (fs : List Fa) (most : Int) (w : World) (h : NetC w A n c F m d ps fs) (hs : Short ps) (hc : checkF ps fs = r) :
    Calls Tryz.prog 24 #[.agg #[.slice A n c, .slice F m d], .int .i64 most] w (ContrP ([], r) w) := by
  have hb0 := ((below_alloc' w (.cells #[.slice A n c, .slice F m d] 25)).alloc (by simp) (.cells #[.slice none 0 0] 47)).alloc (by simp; omega) (.cells #[.int .i64 0] 28)
  have y0 := ((Cel.new w 25 #[.slice A n c, .slice F m d]).alloc (.cells #[.slice none 0 0] 47)).alloc (.cells #[.int .i64 0] 28)
  have y1 := (Cel.new (w.alloc (.cells #[.slice A n c, .slice F m d] 25)) 47 #[.slice none 0 0]).alloc (.cells #[.int .i64 0] 28)
  have y2 := Cel.new ((w.alloc (.cells #[.slice A n c, .slice F m d] 25)).alloc (.cells #[.slice none 0 0] 47)) 28 #[.int .i64 0]
  simp only [World.size_alloc] at y1 y2
  have HK := Lib.hid (check_is hc _ (h.below hb0) hs)
  have HN := Lib.hid h
  have H0 := Lib.hid y0
  have H1 := Lib.hid y1
  have H2 := Lib.hid y2
  have HB := Lib.hid hb0
  clear h hs hc y0 y1 y2 hb0
  rcases hr with rfl | rfl
  · go_enter Tryz.func24, Tryz.ntmps24
    go_wp2_with fail
    refine HK.out.mono ?_
    rintro e w1 ⟨rfl, hb1⟩
    have x1 := H1.out.below H1.out.lt hb1
    have x2 := H2.out.below H2.out.lt hb1
    have hB := HB.out.trans (hb1.mono HB.out.size)
    have z1 := x1.cell 0 (.slice none 0 0) rfl
    have z2 := x2.cell 0 (.int .i64 0) rfl
    have f1 := x1.frozen 0
    have f2 := x2.frozen 0
    have HF := Lib.hid (contr_end w.heap.size w1 w x1 x2 hB (Nat.le_refl _) 3 none 0 0 [] (Sl.nil0 _ _))
    clear HK hb1 H0 H1 H2 HB x1 x2 hB
    go_wp2
    exact HF.out _ rfl rfl rfl
  · go_enter Tryz.func24, Tryz.ntmps24
    go_wp2_with fail
    refine HK.out.mono ?_
    rintro e w1 ⟨rfl, hb1⟩
    have x1 := H1.out.below H1.out.lt hb1
    have x2 := H2.out.below H2.out.lt hb1
    have hB := HB.out.trans (hb1.mono HB.out.size)
    have z1 := x1.cell 0 (.slice none 0 0) rfl
    have z2 := x2.cell 0 (.int .i64 0) rfl
    have f1 := x1.frozen 0
    have f2 := x2.frozen 0
    have HF := Lib.hid (contr_end w.heap.size w1 w x1 x2 hB (Nat.le_refl _) 100 none 0 0 [] (Sl.nil0 _ _))
    clear HK hb1 H0 H1 H2 HB x1 x2 hB
    go_wp2
    exact HF.out _ rfl rfl rfl
set_option maxRecDepth 100000 in
set_option maxHeartbeats 1000000 in
theorem contr_range (A : Option Addr) (n c : Nat) (F : Option Addr) (m d : Nat) (ps : List ByteArray) (fs : List Fa) (most : Int) (hm : most < 1 ∨ 4 < most) (w : World) (h : NetC w A n c F m d ps fs) (hs : Short ps) (hc : checkF ps fs = 0) :
    Calls Tryz.prog 24 #[.agg #[.slice A n c, .slice F m d], .int .i64 most] w (ContrP ([], 8) w) := by
  have hb0 := ((below_alloc' w (.cells #[.slice A n c, .slice F m d] 25)).alloc (by simp) (.cells #[.slice none 0 0] 47)).alloc (by simp; omega) (.cells #[.int .i64 0] 28)
  have y0 := ((Cel.new w 25 #[.slice A n c, .slice F m d]).alloc (.cells #[.slice none 0 0] 47)).alloc (.cells #[.int .i64 0] 28)
  have y1 := (Cel.new (w.alloc (.cells #[.slice A n c, .slice F m d] 25)) 47 #[.slice none 0 0]).alloc (.cells #[.int .i64 0] 28)
  have y2 := Cel.new ((w.alloc (.cells #[.slice A n c, .slice F m d] 25)).alloc (.cells #[.slice none 0 0] 47)) 28 #[.int .i64 0]
  simp only [World.size_alloc] at y1 y2
  have HK := Lib.hid (check_is hc _ (h.below hb0) hs)
  have HN := Lib.hid h
  have H0 := Lib.hid y0
  have H1 := Lib.hid y1
  have H2 := Lib.hid y2
  have HB := Lib.hid hb0
  clear h hs hc y0 y1 y2 hb0
  by_cases h1 : most < 1
  · go_enter Tryz.func24, Tryz.ntmps24
    go_wp2_with fail
    refine HK.out.mono ?_
    rintro e w1 ⟨rfl, hb1⟩
    have x1 := H1.out.below H1.out.lt hb1
    have x2 := H2.out.below H2.out.lt hb1
    have hB := HB.out.trans (hb1.mono HB.out.size)
    have z1 := x1.cell 0 (.slice none 0 0) rfl
    have z2 := x2.cell 0 (.int .i64 0) rfl
    have f1 := x1.frozen 0
    have f2 := x2.frozen 0
    have HF := Lib.hid (contr_end w.heap.size w1 w x1 x2 hB (Nat.le_refl _) 8 none 0 0 [] (Sl.nil0 _ _))
    clear HK hb1 H0 H1 H2 HB x1 x2 hB
    go_wp2
    exact HF.out _ rfl rfl rfl
  · have h2 : 4 < most := by omega
    go_enter Tryz.func24, Tryz.ntmps24
    go_wp2_with fail
    refine HK.out.mono ?_
    rintro e w1 ⟨rfl, hb1⟩
    have x1 := H1.out.below H1.out.lt hb1
    have x2 := H2.out.below H2.out.lt hb1
    have hB := HB.out.trans (hb1.mono HB.out.size)
    have z1 := x1.cell 0 (.slice none 0 0) rfl
    have z2 := x2.cell 0 (.int .i64 0) rfl
    have f1 := x1.frozen 0
    have f2 := x2.frozen 0
    have HF := Lib.hid (contr_end w.heap.size w1 w x1 x2 hB (Nat.le_refl _) 8 none 0 0 [] (Sl.nil0 _ _))
    clear HK hb1 H0 H1 H2 HB x1 x2 hB
    go_wp2
    exact HF.out _ rfl rfl rfl
end

section
open Go Go.RowKit Go.Shelf
attribute [local go_sem] Oper.semAt_some

/-- The search from sets of so many facts on. -/
def contrK (ps : List ByteArray) (fs : List Fa) (M k : Nat) : Option (List Nat) := (List.range' k (M + 1 - k)).findSome? fun many => srch ps fs (many - 1) (bornE ps.length 0 0) [] 0
theorem contrK_one (ps : List ByteArray) (fs : List Fa) (M : Nat) : contrF ps fs M = contrK ps fs M 1 := by unfold contrF contrK; rw [Nat.add_sub_cancel]
theorem contrK_end {ps : List ByteArray} {fs : List Fa} {M k : Nat} (h : ¬ k ≤ M) : contrK ps fs M k = none := by
  unfold contrK
  rw [show M + 1 - k = 0 by omega]
  rfl
theorem contrK_some {ps : List ByteArray} {fs : List Fa} {M k : Nat} {s : List Nat} (h : k ≤ M) (hs : srch ps fs (k - 1) (bornE ps.length 0 0) [] 0 = some s) : contrK ps fs M k = some s := by
  unfold contrK
  rw [show M + 1 - k = (M + 1 - (k + 1)) + 1 by omega, List.range'_succ, List.findSome?_cons, hs]
theorem contrK_next {ps : List ByteArray} {fs : List Fa} {M k : Nat} (h : k ≤ M) (hs : srch ps fs (k - 1) (bornE ps.length 0 0) [] 0 = none) : contrK ps fs M k = contrK ps fs M (k + 1) := by
  unfold contrK
  rw [show M + 1 - k = (M + 1 - (k + 1)) + 1 by omega, List.range'_succ, List.findSome?_cons, hs]
/-- The results' cells, where marks are left. -/
theorem contr_endM (B : Nat) (W w : World) (r : Int) (v : Value) (l : List Nat) (x1 : Cel W (B + 1) 47 #[v]) (x2 : Cel W (B + 1 + 1) 28 #[.int .i64 r]) (hB : Below w.heap.size w W) (hw : w.heap.size ≤ B) (hl : Sl W 1 v (natsV l)) (ds : List Nat) (hm : Marks W ds) (hd : ∀ d ∈ ds, B + 3 ≤ d) (a : Act) (h4 : a.tmps.getD 4 undef = .pointer (some ⟨B + 1, 0, none⟩)) (h5 : a.tmps.getD 5 undef = .pointer (some ⟨B + 1 + 1, 0, none⟩)) (ha : a.defers = marksD ds) :
    bodyPostM Fence.wide 6 Tryz.prog Tryz.f24 (ContrP (l, r) w) .ret a W := by
  have h4' : a.tmps[4]?.getD undef = .pointer (some ⟨B + 1, 0, none⟩) := by simpa using h4
  have h5' : a.tmps[5]?.getD undef = .pointer (some ⟨B + 1 + 1, 0, none⟩) := by simpa using h5
  show LeavesInM Fence.wide 6 Tryz.prog Tryz.f24 a.tmps (ContrP (l, r) w) a.defers .returning W
  rw [ha]
  refine marks_leave hm fun W' hk ho ht hu hz => ?_
  have c1 : Cel W' (B + 1) 47 #[v] := (hk _ (fun q => by have := hd _ q; omega)).trans x1
  have c2 : Cel W' (B + 1 + 1) 28 #[.int .i64 r] := (hk _ (fun q => by have := hd _ q; omega)).trans x2
  have hc : ∀ p u, W.cell? p = some u → W'.cell? p = some u := fun p u hp => by
    refine (World.cell?_of_block (hk _ fun q => ?_)).trans hp
    have : ∀ {ds : List Nat}, Marks W ds → ∀ d ∈ ds, W.heap[d]? = some (.deferred (some [])) := by
      intro ds
      induction ds with
      | nil => intro _ d hd; cases hd
      | cons e ds ih =>
        rintro ⟨g1, _, g3⟩ d hd
        rcases List.mem_cons.1 hd with q | q
        · subst q; exact g1
        · exact ih g3 d q
    have := this hm _ q
    simp [World.cell?, this] at hp
  have k1 := c1.cell 0 _ rfl
  have k2 := c2.cell 0 _ rfl
  refine ⟨.tuple #[v, .int .i64 r], by simp [results, Tryz.results24, go_sem, h4', h5', k1, k2], ⟨ho.trans hB.os, ht.trans hB.tape, hu.trans hB.output, by rw [hz]; exact hB.size, fun k hk' => (hk k (fun q => by have := hd _ q; omega)).trans (hB.block k hk')⟩, v, rfl, hl.keep hc⟩
def contrR (r : Option (List Nat)) : List Nat × Int := match r with
  | some s => (s, 0)
  | none => ([], 4)
set_option maxRecDepth 100000 in
set_option maxHeartbeats 4000000 in
theorem contr_good (A : Option Addr) (n c : Nat) (F : Option Addr) (m d : Nat) (ps : List ByteArray) (fs : List Fa) (M : Nat) (hm1 : 1 ≤ M) (hm4 : M ≤ 4) (w : World) (h : NetC w A n c F m d ps fs) (hs : Short ps) (hc : checkF ps fs = 0) (hp : ps.length ≤ 24) (hf : AllAbout ps fs) (hfew : fs.length ≤ 48) :
    Calls Tryz.prog 24 #[.agg #[.slice A n c, .slice F m d], .int .i64 (M : Int)] w (ContrP (contrR (contrF ps fs M)) w) := by
  have hb0 := ((below_alloc' w (.cells #[.slice A n c, .slice F m d] 25)).alloc (by simp) (.cells #[.slice none 0 0] 47)).alloc (by simp; omega) (.cells #[.int .i64 0] 28)
  have y0 := ((Cel.new w 25 #[.slice A n c, .slice F m d]).alloc (.cells #[.slice none 0 0] 47)).alloc (.cells #[.int .i64 0] 28)
  have y1 := (Cel.new (w.alloc (.cells #[.slice A n c, .slice F m d] 25)) 47 #[.slice none 0 0]).alloc (.cells #[.int .i64 0] 28)
  have y2 := Cel.new ((w.alloc (.cells #[.slice A n c, .slice F m d] 25)).alloc (.cells #[.slice none 0 0] 47)) 28 #[.int .i64 0]
  simp only [World.size_alloc] at y1 y2
  have HK := Lib.hid (check_is hc _ (h.below hb0) hs)
  have HN := Lib.hid h
  have H0 := Lib.hid y0
  have H1 := Lib.hid y1
  have H2 := Lib.hid y2
  have HB := Lib.hid hb0
  have HF := Lib.hid hf
  clear h hs hc y0 y1 y2 hb0 hf
  refine (callsIn_wide (n := 6)).1 ?_
  refine callsIn_of_wp_marks Tryz.func24 rfl trivial ?_ rfl
  simp only [Tryz.ntmps24, List.size_toArray, List.length_cons, List.length_nil, Nat.reduceAdd, Nat.reduceSub, Array.replicate_succ, Array.replicate_zero, List.push_toArray, List.append_toArray, List.nil_append, List.cons_append]
  gi_wp2_with (refine ⟨trivial, ?_⟩; gi_at_call 56; refine (callsIn_wide.2 HK.out).mono ?_; rintro e w1 ⟨rfl, hb1⟩)
  have hB1 := HB.out.trans (hb1.mono HB.out.size)
  have x0 := H0.out.below H0.out.lt hb1
  have x1 := H1.out.below H1.out.lt hb1
  have x2 := H2.out.below H2.out.lt hb1
  have G0 := Lib.hid x0
  have G1 := Lib.hid x1
  have G2 := Lib.hid x2
  have GB := Lib.hid hB1
  clear HK hb1 H0 H1 H2 HB x0 x1 x2 hB1
  refine wpIn_loop (fun a wr => ∃ (k : Nat) (u14 u15 u16 u17 u18 u19 u20 u21 u22 u23 u24 u25 u26 u27 u28 : Value) (ds : List Nat), a = { tmps := #[.agg #[.slice A n c, .slice F m d], (.int .i64 (M : Int)), .pointer (some ⟨w.heap.size, 0, none⟩), undef, .pointer (some ⟨w.heap.size + 1, 0, none⟩), .pointer (some ⟨w.heap.size + 1 + 1, 0, none⟩), .int .i64 0, .int .i64 (k : Int), undef, undef, .agg #[.slice A n c, .slice F m d], .int .i64 0, .int .i64 0, .bool false, u14, u15, u16, u17, u18, u19, u20, u21, u22, u23, u24, u25, u26, u27, u28, undef, undef, undef, undef, undef], defers := marksD ds } ∧ 1 ≤ k ∧ k ≤ M + 1 ∧ Hid (contrF ps fs M = contrK ps fs M k) ∧ Hid (Below w.heap.size w wr) ∧ Hid (Cel wr w.heap.size 25 #[.slice A n c, .slice F m d]) ∧ Hid (Cel wr (w.heap.size + 1) 47 #[.slice none 0 0]) ∧ Hid (Cel wr (w.heap.size + 1 + 1) 28 #[.int .i64 0]) ∧ Hid (Marks wr ds) ∧ Hid (∀ d ∈ ds, w.heap.size + 3 ≤ d)) (fun a _ => M + 1 - (intOf (a.tmps.getD 7 undef)).toNat) ?_ ?_
  · exact ⟨1, _, _, _, _, _, _, _, _, _, _, _, _, _, _, _, [], rfl, by omega, by omega, contrK_one ps fs M, GB.out, G0.out, G1.out, G2.out, trivial, fun d hd => by cases hd⟩
  · clear G0 G1 G2 GB
    rintro a wr ⟨k, u14, u15, u16, u17, u18, u19, u20, u21, u22, u23, u24, u25, u26, u27, u28, ds, rfl, hk1, hk2, HC, GB, G0, G1, G2, GM, GD⟩
    have z0 := G0.out.cell 0 (.slice A n c) rfl
    have z1 := G0.out.cell 1 (.slice F m d) rfl
    by_cases hk : k ≤ M
    · have hki : (k : Int) ≤ (M : Int) := by omega
      gi_wp2_with (refine ⟨trivial, ?_⟩; gi_at_call 75; refine (callsIn_wide.2 (sets_any A n c F m d (k : Int) wr)).mono ?_; rintro e w2 ⟨rfl, rfl⟩)
      have hbw := (below_alloc' wr (.cells #[.slice A n c, .slice F m d] 25)).alloc (by simp) (.cells #[.int .i64 (k : Int)] 3)
      have v0 := (Cel.new wr 25 #[.slice A n c, .slice F m d]).alloc (.cells #[.int .i64 (k : Int)] 3)
      have v1 := Cel.new (wr.alloc (.cells #[.slice A n c, .slice F m d] 25)) 3 #[.int .i64 (k : Int)]
      rw [World.size_alloc] at v1
      have hz : ((wr.alloc (.cells #[.slice A n c, .slice F m d] 25)).alloc (.cells #[.int .i64 (k : Int)] 3)).heap.size = wr.heap.size + 2 := by simp
      generalize (wr.alloc (.cells #[.slice A n c, .slice F m d] 25)).alloc (.cells #[.int .i64 (k : Int)] 3) = V at *
      have HBW := Lib.hid (GB.out.trans (hbw.mono GB.out.size))
      have HBr := Lib.hid hbw
      have HZ := Lib.hid hz
      have hg0 := G0.out.lt
      have hg1 := G1.out.lt
      have hg2 := G2.out.lt
      have GM2 := Lib.hid (GM.out.kept (W' := V) fun e he => hbw.block e (GM.out.lt e he))
      have GD2 := Lib.hid (fun e he => GM.out.lt e he)
      clear z0 z1 hki
      refine range_sets (n := 6) (w0 := w) (bn := wr.heap.size) (bm := wr.heap.size + 1) (r1 := w.heap.size + 1) (r2 := w.heap.size + 1 + 1) (many := k) (ps := ps) (fs := fs) (by omega) rfl rfl hp HF.out hfew hk1 (by omega) v0 v1 (HN.out.below HBW.out) HBW.out (G1.out.below hg1 hbw) (G2.out.below hg2 hbw) (by omega) (by omega) (by omega) (by omega) (by omega)
        (fun v b => { tmps := #[.agg #[.slice A n c, .slice F m d], (.int .i64 (M : Int)), .pointer (some ⟨w.heap.size, 0, none⟩), undef, .pointer (some ⟨w.heap.size + 1, 0, none⟩), .pointer (some ⟨w.heap.size + 1 + 1, 0, none⟩), .int .i64 0, .int .i64 (k : Int), v, .bool b, .agg #[.slice A n c, .slice F m d], .int .i64 0, .int .i64 0, .bool false, u14, u15, u16, u17, u18, u19, u20, .int .i64 (k : Int), .int .i64 (M : Int), .bool true, u24, u25, .agg #[.slice A n c, .slice F m d], .int .i64 (k : Int), .func (.func 110) #[] #[.pointer (some ⟨wr.heap.size, 0, none⟩), .pointer (some ⟨wr.heap.size + 1, 0, none⟩)], v, .bool b, undef, undef, undef], defers := [] }) ?assign ?go ?stop ?done ?ret
      case assign =>
        intro l v b W K hK
        gi_wp2
        exact hK
      case go =>
        intro l v W R hR
        gi_wp2
        exact hR _
      case stop =>
        intro l A' n' c' W R q1 q2 hR
        have z2 := q1.cell 0 (.slice none 0 0) rfl
        have z3 := q2.cell 0 (.int .i64 0) rfl
        have f2 := q1.frozen 0
        have f3 := q2.frozen 0
        gi_wp2
        exact hR _
      case done =>
        intro W' hs hb hsz hsame q1 q2 hdf
        have HS := Lib.hid (contrK_next hk hs)
        have J0 := Lib.hid (show Cel W' w.heap.size 25 #[.slice A n c, .slice F m d] from (hsame _ (by omega) (by omega) (by omega)).trans (G0.out.below hg0 HBr.out))
        have JM := Lib.hid (show Marks W' (V.heap.size :: ds) from ⟨hdf, fun e he q => by have := GD2.out e he; have := HZ.out; omega, GM2.out.kept fun e he => by have := GD.out e he; have := GD2.out e he; have := HZ.out; exact hsame e (by omega) (by omega) (by omega)⟩)
        have JB := Lib.hid hb
        have J1 := Lib.hid q1
        have J2 := Lib.hid q2
        have hkb : (k : Int) ≤ 4 := by omega
        clear hs hb hsame q1 q2 hdf
        gi_wp2
        refine ⟨⟨k + 1, u14, u15, u16, u17, u18, u19, u20, .int .i64 (k : Int), .int .i64 (M : Int), .bool true, .int .i64 (k : Int), .int .i64 ((k : Int) + 1), .agg #[.slice A n c, .slice F m d], .int .i64 (k : Int), .func (.func 110) #[] #[.pointer (some ⟨wr.heap.size, 0, none⟩), .pointer (some ⟨wr.heap.size + 1, 0, none⟩)], V.heap.size :: ds, ?_, by omega, by omega, HC.out.trans HS.out, JB.out, J0.out, J1.out, J2.out, JM.out, fun e he => ?_⟩, ?_⟩
        · rfl
        · rcases List.mem_cons.1 he with q | q
          · have := HZ.out; omega
          · exact GD.out e q
        · simp [intOf]; omega
      case ret =>
        intro W' s v hs hb hsz hsame q1 q2 hsl hdf
        have HS := Lib.hid (contrK_some hk hs)
        have JM := Lib.hid (show Marks W' (V.heap.size :: ds) from ⟨hdf, fun e he q => by have := GD2.out e he; have := HZ.out; omega, GM2.out.kept fun e he => by have := GD.out e he; have := GD2.out e he; have := HZ.out; exact hsame e (by omega) (by omega) (by omega)⟩)
        have HE := Lib.hid (contr_endM w.heap.size W' w 0 v s q1 q2 hb (Nat.le_refl _) hsl (V.heap.size :: ds) JM.out (fun e he => by
          rcases List.mem_cons.1 he with q | q
          · have := HZ.out; omega
          · exact GD.out e q))
        have HR := Lib.hid (HC.out.trans HS.out)
        clear hs hb hsame q1 q2 hsl hdf
        gi_wp2
        rw [HR.out]
        exact HE.out _ rfl rfl rfl
    · have hkn : ¬ (k : Int) ≤ (M : Int) := by omega
      have z2 := G1.out.cell 0 (.slice none 0 0) rfl
      have z3 := G2.out.cell 0 (.int .i64 0) rfl
      have f2 := G1.out.frozen 0
      have f3 := G2.out.frozen 0
      have HS := Lib.hid (contrK_end hk (ps := ps) (fs := fs))
      have k1 := (G1.out.setAt 0 (.slice none 0 0)).other (p := ⟨w.heap.size + 1 + 1, 0, none⟩) (by simp) (.int .i64 4)
      have k2 := (G2.out.other (p := ⟨w.heap.size + 1, 0, none⟩) (by simp) (.slice none 0 0)).setAt 0 (.int .i64 4)
      have kb := (GB.out.setCell (p := ⟨w.heap.size + 1, 0, none⟩) (by simp) (.slice none 0 0)).setCell (p := ⟨w.heap.size + 1 + 1, 0, none⟩) (by simp; omega) (.int .i64 4)
      have km := (GM.out.kept (W' := (wr.setCell ⟨w.heap.size + 1, 0, none⟩ (.slice none 0 0)).setCell ⟨w.heap.size + 1 + 1, 0, none⟩ (.int .i64 4)) fun e he => (Below.heap_setCell _ _ _ _ (by have := GD.out e he; simp; omega)).trans (Below.heap_setCell _ _ _ _ (by have := GD.out e he; simp; omega)))
      have HE := Lib.hid (contr_endM w.heap.size _ w 4 (.slice none 0 0) [] k1 k2 kb (Nat.le_refl _) (Sl.nil0 _ _) ds km GD.out)
      have HR := Lib.hid (HC.out.trans HS.out)
      clear k1 k2 kb km
      gi_wp2
      rw [HR.out]
      exact HE.out _ rfl rfl rfl
end

section
open Go Go.RowKit Go.Shelf

theorem contr_any (A : Option Addr) (n c : Nat) (F : Option Addr) (m d : Nat) (ps : List ByteArray) (fs : List Fa) (most : Int) (w : World) (h : NetC w A n c F m d ps fs) (hs : Short ps) :
    Calls Tryz.prog 24 #[.agg #[.slice A n c, .slice F m d], .int .i64 most] w (ContrP (contrV ps fs most) w) := by
  unfold contrV
  rcases checkF_cases ps fs with hc | hc | ⟨hc, hp, hfew, _, hf⟩
  · rw [hc]
    exact contr_bad 3 (.inl rfl) A n c F m d ps fs most w h hs hc
  · rw [hc]
    exact contr_bad 100 (.inr rfl) A n c F m d ps fs most w h hs hc
  · rw [hc, if_neg (fun q => q rfl)]
    by_cases hm : most < 1 ∨ 4 < most
    · rw [if_pos hm]
      exact contr_range A n c F m d ps fs most hm w h hs hc
    · rw [if_neg hm]
      obtain ⟨M, rfl⟩ : ∃ M : Nat, most = (M : Int) := ⟨most.toNat, by omega⟩
      have := contr_good A n c F m d ps fs M (by omega) (by omega) w h hs hc hp hf hfew
      rw [Int.toNat_natCast]
      unfold contrR at this
      exact this
end
end Go.Proofs.YtdmcopjbckelmaaGreatDoor
