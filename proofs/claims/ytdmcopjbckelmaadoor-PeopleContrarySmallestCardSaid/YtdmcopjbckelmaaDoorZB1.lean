/- Plain: what the search for a contradiction finds is a smallest one. No condition. Plain: which indices are kept. No condition. Walks of the package bullalaw10: kept. Conditions: those stated. -/
import Derived.Test.YtdmcopjbckelmaaDoorZF
import Derived.Test.YtdmcopjbckelmaaDoorZV2
import Derived.BigQuiet
namespace Go.Proofs.YtdmcopjbckelmaaDoor
section
open Go Go.RowKit

theorem srch_sound {ps : List ByteArray} {fs : List Fa} : ∀ (d : Nat) (D : Mat) (set : List Nat) (i : Nat) (s : List Nat), solveF ps (selF fs set) = some D → srch ps fs d D set i = some s →
    ∃ t, s = set ++ t ∧ t.length = d + 1 ∧ t.Pairwise (· < ·) ∧ (∀ j ∈ t, i ≤ j ∧ j < fs.length) ∧ badL ps fs s = true := by
  intro d
  induction d with
  | zero =>
    intro D set i s e h
    rw [srch_eq] at h
    obtain ⟨j, hj, hs⟩ := List.exists_of_findSome?_eq_some h
    rw [List.mem_range'_1] at hj
    have hb := badL_snoc e j
    unfold srchAt at hs
    cases ha : amL D (boundsF ps (fs.getD j noFa)) with
    | none =>
      rw [ha] at hs hb
      simp only [if_true, Option.some.injEq] at hs
      subst hs
      exact ⟨[j], rfl, rfl, by simp, by simp; omega, hb⟩
    | some E => rw [ha] at hs; simp at hs
  | succ d ih =>
    intro D set i s e h
    rw [srch_eq] at h
    obtain ⟨j, hj, hs⟩ := List.exists_of_findSome?_eq_some h
    rw [List.mem_range'_1] at hj
    unfold srchAt at hs
    cases ha : amL D (boundsF ps (fs.getD j noFa)) with
    | none => rw [ha] at hs; simp at hs
    | some E =>
      rw [ha] at hs
      simp only [Nat.add_one_ne_zero, if_false, Nat.add_sub_cancel] at hs
      obtain ⟨t, h1, h2, h3, h4, h5⟩ := ih E (set ++ [j]) (j + 1) s (by rw [selF_snoc, solveF_snoc, e]; exact ha) hs
      refine ⟨j :: t, by rw [h1]; simp, by simp [h2], ?_, ?_, h5⟩
      · rw [List.pairwise_cons]
        exact ⟨fun x hx => by have := h4 x hx; omega, h3⟩
      · intro x hx
        rcases List.mem_cons.1 hx with rfl | q
        · omega
        · have := h4 x q; omega
theorem srch_none {ps : List ByteArray} {fs : List Fa} : ∀ (d : Nat) (D : Mat) (set : List Nat) (i : Nat), solveF ps (selF fs set) = some D → srch ps fs d D set i = none →
    ∀ t : List Nat, t.length = d + 1 → t.Pairwise (· < ·) → (∀ j ∈ t, i ≤ j ∧ j < fs.length) → (∀ k, k ≤ d → badL ps fs (set ++ t.take k) = false) → badL ps fs (set ++ t) = false := by
  intro d
  induction d with
  | zero =>
    intro D set i e h t ht _ hr _
    obtain ⟨j, rfl⟩ := List.length_eq_one_iff.1 ht
    rw [srch_eq, List.findSome?_eq_none_iff] at h
    have hj := hr j (by simp)
    have hs := h j (by rw [List.mem_range'_1]; omega)
    rw [badL_snoc e j]
    unfold srchAt at hs
    cases ha : amL D (boundsF ps (fs.getD j noFa)) with
    | none => rw [ha] at hs; simp at hs
    | some E => rfl
  | succ d ih =>
    intro D set i e h t ht hp hr hg
    obtain ⟨j, t, rfl⟩ : ∃ j t', t = j :: t' := by
      cases t with
      | nil => simp at ht
      | cons j t => exact ⟨j, t, rfl⟩
    rw [srch_eq, List.findSome?_eq_none_iff] at h
    have hj := hr j (by simp)
    have hs := h j (by rw [List.mem_range'_1]; omega)
    have h1 := hg 1 (by omega)
    simp only [List.take_succ_cons, List.take_zero] at h1
    rw [badL_snoc e j] at h1
    rw [List.pairwise_cons] at hp
    unfold srchAt at hs
    cases ha : amL D (boundsF ps (fs.getD j noFa)) with
    | none => rw [ha] at h1; simp at h1
    | some E =>
      rw [ha] at hs
      simp only [Nat.add_one_ne_zero, if_false, Nat.add_sub_cancel] at hs
      have := ih E (set ++ [j]) (j + 1) (by rw [selF_snoc, solveF_snoc, e]; exact ha) hs t (by simpa using ht) hp.2 (fun x hx => by
        have h2 := hp.1 x hx
        have h3 := hr x (by simp [hx])
        omega) (fun k hk => by
        have := hg (k + 1) (by omega)
        rw [List.take_succ_cons] at this
        rw [List.append_assoc]
        exact this)
      rw [List.append_assoc] at this
      exact this
theorem sel_none (ps : List ByteArray) (fs : List Fa) : solveF ps (selF fs []) = some (bornE ps.length 0 0) := rfl
/-- Strictly increasing indices of facts. -/
def IdxL (fs : List Fa) (l : List Nat) : Prop := l.Pairwise (· < ·) ∧ ∀ j ∈ l, j < fs.length
theorem all_good {ps : List ByteArray} {fs : List Fa} {M : Nat} (H : ∀ m, 1 ≤ m → m ≤ M → srch ps fs (m - 1) (bornE ps.length 0 0) [] 0 = none) : ∀ (n : Nat) (l : List Nat), l.length = n → n ≤ M → IdxL fs l → badL ps fs l = false := by
  intro n
  induction n using Nat.strongRecOn with
  | ind n ih =>
    intro l hl hn hi
    rcases Nat.eq_zero_or_pos n with q | q
    · subst q
      rw [List.length_eq_zero_iff.1 hl]
      rfl
    · have := srch_none (n - 1) _ [] 0 (sel_none ps fs) (H n q hn) l (by omega) hi.1 (fun j hj => ⟨Nat.zero_le _, hi.2 j hj⟩) (fun k hk => by
        have ht : (l.take k).length = k := by rw [List.length_take]; omega
        exact ih k (by omega) (l.take k) ht (by omega) ⟨hi.1.sublist (List.take_sublist k l), fun j hj => hi.2 j (List.mem_of_mem_take hj)⟩)
      simpa using this
theorem contr_none {ps : List ByteArray} {fs : List Fa} {most : Nat} (h : contrF ps fs most = none) {l : List Nat} (hi : IdxL fs l) (hl : l.length ≤ most) : badL ps fs l = false := by
  unfold contrF at h
  rw [List.findSome?_eq_none_iff] at h
  exact all_good (M := most) (fun m h1 h2 => h m (by rw [List.mem_range'_1]; omega)) _ l rfl hl hi
theorem contr_some {ps : List ByteArray} {fs : List Fa} {most : Nat} {x : List Nat} (h : contrF ps fs most = some x) :
    IdxL fs x ∧ 1 ≤ x.length ∧ x.length ≤ most ∧ badL ps fs x = true ∧ ∀ l, IdxL fs l → l.length < x.length → badL ps fs l = false := by
  unfold contrF at h
  rw [List.findSome?_eq_some_iff] at h
  obtain ⟨l1, a, l2, h1, h2, h3⟩ := h
  obtain ⟨k, hk, e1, e2⟩ := List.range'_eq_append_iff.1 h1
  have hlen : most - k = l2.length + 1 := by
    have := congrArg List.length e2
    simpa using this.symm
  have ha : a = 1 + k := by
    rw [hlen, List.range'_succ] at e2
    have := (List.cons.inj e2).1
    omega
  subst ha
  obtain ⟨t, q1, q2, q3, q4, q5⟩ := srch_sound _ _ _ _ _ (sel_none ps fs) h2
  rw [List.nil_append] at q1
  subst q1
  refine ⟨⟨q3, fun j hj => (q4 j hj).2⟩, by omega, by omega, q5, fun l hi hl => ?_⟩
  refine all_good (M := k) (fun m m1 m2 => h3 m ?_) _ l rfl (by omega) hi
  rw [e1, List.mem_range'_1]
  omega
end

section
open Go Go.RowKit

theorem idx_snoc {fs : List Fa} {x : List Nat} {j : Nat} (h : IdxL fs x) (hj : j < fs.length) (hl : ∀ y, x[x.length - 1]? = some y → y < j) : IdxL fs (x ++ [j]) := by
  refine ⟨?_, fun i hi => ?_⟩
  · rw [List.pairwise_append]
    refine ⟨h.1, by simp, fun a ha b hb => ?_⟩
    rw [List.mem_singleton.1 hb]
    rcases List.eq_nil_or_concat x with q | ⟨x', y, q⟩
    · subst q; cases ha
    · rw [List.concat_eq_append] at q
      subst q
      have hy := hl y (by simp)
      rcases List.mem_append.1 ha with r | r
      · have := (List.pairwise_append.1 h.1).2.2 a r y (by simp)
        omega
      · rw [List.mem_singleton.1 r]; exact hy
  · rcases List.mem_append.1 hi with q | q
    · exact h.2 i q
    · rw [List.mem_singleton.1 q]; exact hj
/-- The integers of indices. -/
def intL (x : List Nat) : List Int := x.map Int.ofNat
/-- Whether the list goes on well at an index. -/
def goesB (fs : List Fa) (l : List Int) (k : Nat) : Bool := decide (0 ≤ l.getD k 0) && decide (l.getD k 0 < (fs.length : Int)) && (decide (k = 0) || decide (l.getD (k - 1) 0 < l.getD k 0))
theorem kept_next {fs : List Fa} {l : List Int} {x : List Nat} {k : Nat} (hk : k < l.length) (hx : l.take k = intL x) (hi : IdxL fs x) (h : goesB fs l k = true) : ∃ j : Nat, l.getD k 0 = (j : Int) ∧ j < fs.length ∧ IdxL fs (x ++ [j]) ∧ l.take (k + 1) = intL (x ++ [j]) := by
  unfold goesB at h
  simp only [Bool.and_eq_true, Bool.or_eq_true, decide_eq_true_eq] at h
  obtain ⟨⟨h1, h2⟩, h3⟩ := h
  obtain ⟨j, hj⟩ := Int.eq_ofNat_of_zero_le h1
  have hxl : x.length = k := by
    have := congrArg List.length hx
    simp [intL] at this
    omega
  refine ⟨j, hj, by omega, idx_snoc hi (by omega) (fun y hy => ?_), ?_⟩
  · rcases Nat.eq_zero_or_pos k with q | q
    · subst q
      rw [List.length_eq_zero_iff.1 hxl] at hy
      simp at hy
    · have e : l[k - 1]? = some (y : Int) := by
        have e1 : (l.take k)[k - 1]? = l[k - 1]? := by rw [List.getElem?_take, if_pos (by omega)]
        rw [← e1, hx]
        unfold intL
        rw [List.getElem?_map, ← hxl, hy]
        rfl
      have e2 : l.getD (k - 1) 0 = (y : Int) := by rw [List.getD_eq_getElem?_getD, e]; rfl
      rw [e2, hj] at h3
      omega
  · have e : l[k]? = some (j : Int) := by
      rw [← hj, List.getD_eq_getElem?_getD, List.getElem?_eq_getElem hk]
      rfl
    rw [List.take_add_one, e, hx]
    simp [intL]
theorem kept_stop {fs : List Fa} {l : List Int} {k : Nat} (hk : k < l.length) (h : goesB fs l k = false) {y : List Nat} (hy : IdxL fs y) : l ≠ intL y := by
  intro e
  subst e
  have hk' : k < y.length := by simpa [intL] using hk
  have e1 : (intL y).getD k 0 = ((y[k] : Nat) : Int) := by
    rw [List.getD_eq_getElem?_getD]
    unfold intL
    rw [List.getElem?_map, List.getElem?_eq_getElem hk']
    rfl
  have h2 := hy.2 y[k] (List.getElem_mem hk')
  apply absurd h
  rw [Bool.not_eq_false]
  unfold goesB
  rw [e1]
  simp only [Bool.and_eq_true, Bool.or_eq_true, decide_eq_true_eq]
  refine ⟨⟨by omega, by omega⟩, ?_⟩
  rcases Nat.eq_zero_or_pos k with q | q
  · exact .inl q
  · right
    have hk1 : k - 1 < y.length := by omega
    have e2 : (intL y).getD (k - 1) 0 = ((y[k - 1] : Nat) : Int) := by
      rw [List.getD_eq_getElem?_getD]
      unfold intL
      rw [List.getElem?_map, List.getElem?_eq_getElem hk1]
      rfl
    rw [e2]
    have := List.pairwise_iff_getElem.1 hy.1 (k - 1) k hk1 hk' (by omega)
    omega
end

section
open Go Go.RowKit Go.Shelf
attribute [local go_sem] Oper.semAt_some

/-- What kept answers. -/
def KeptP (ps : List ByteArray) (A : Option Addr) (c : Nat) (fs : List Fa) (l : List Int) (w : World) (e : Ending) (w' : World) : Prop :=
  Below w.heap.size w w' ∧ ∃ (x : List Nat) (q : Bool) (A1 : Option Addr) (c1 : Nat), e = .returned (.tuple #[.agg #[.slice A ps.length c, .slice A1 x.length c1], .bool q]) ∧ Sl w' 4 (.slice A1 x.length c1) (fasV (selF fs x)) ∧ IdxL fs x ∧ (q = true → l = intL x) ∧ (∀ y, IdxL fs y → l = intL y → q = true)
theorem idx_length {fs : List Fa} {x : List Nat} (h : IdxL fs x) : x.length ≤ fs.length := by
  have hn : x.Nodup := h.1.imp (fun hab => Nat.ne_of_lt hab)
  have := hn.length_le_of_subset (l₂ := List.range fs.length) (fun j hj => List.mem_range.2 (h.2 j hj))
  simpa using this
set_option maxRecDepth 100000 in
set_option maxHeartbeats 8000000 in
theorem kept_any (A : Option Addr) (c : Nat) (F : Option Addr) (d : Nat) (ps : List ByteArray) (fs : List Fa) (v : Value) (l : List Int) (w : World) (h : NetC w A ps.length c F fs.length d ps fs) (hv : Sl w 1 v (l.map (Value.int .i64))) (hm : fs.length * 48 ≤ 140737488355232) :
    Calls Tryd.prog 34 #[.agg #[.slice A ps.length c, .slice F fs.length d], v] w (KeptP ps A c fs l w) := by
  obtain ⟨Al, cl, ev, hcl, hclm, hcell⟩ := hv.open1
  rw [List.length_map] at ev hcl
  subst ev
  have y0 := ((Cel.new w 25 #[.slice A ps.length c, .slice F fs.length d]).alloc (.cells #[.slice none 0 0, .slice none 0 0] 25)).alloc (.cells #[.slice A ps.length c, .slice none 0 0] 25)
  have z0 := (Cel.new w 25 #[.slice A ps.length c, .slice F fs.length d]).cell 0 _ rfl
  have z0' := ((Cel.new w 25 #[.slice A ps.length c, .slice F fs.length d]).alloc (.cells #[.slice none 0 0, .slice none 0 0] 25)).cell 0 _ rfl
  have z0'' := (((Cel.new w 25 #[.slice A ps.length c, .slice F fs.length d]).alloc (.cells #[.slice none 0 0, .slice none 0 0] 25)).alloc (.cells #[.slice none 0 0, .slice none 0 0] 25)).cell 0 _ rfl
  have HN := Lib.hid h
  have HV := Lib.hid hv
  have HM := Lib.hid hm
  clear hv h hcell hm
  go_enter Tryd.func34, Tryd.ntmps34
  go_upto_region 2 with fail
  have HB0 := Lib.hid (((below_alloc' w (.cells #[.slice A ps.length c, .slice F fs.length d] 25)).alloc (by simp) (.cells #[.slice none 0 0, .slice none 0 0] 25)).alloc (by simp; omega) (.cells #[.slice A ps.length c, .slice none 0 0] 25))
  have HY0 := Lib.hid y0
  have HR0 := Lib.hid ((Cel.at (w.alloc (.cells #[.slice A ps.length c, .slice F fs.length d] 25)) (w.heap.size + 1) 25 #[.slice none 0 0, .slice none 0 0] (by simp)).alloc (.cells #[.slice A ps.length c, .slice none 0 0] 25))
  have HO0 := Lib.hid (Cel.at ((w.alloc (.cells #[.slice A ps.length c, .slice F fs.length d] 25)).alloc (.cells #[.slice none 0 0, .slice none 0 0] 25)) (w.heap.size + 1 + 1) 25 #[.slice A ps.length c, .slice none 0 0] (by simp))
  have HSz0 := Lib.hid (show w.heap.size + 1 + 1 + 1 ≤ (((w.alloc (.cells #[.slice A ps.length c, .slice F fs.length d] 25)).alloc (.cells #[.slice none 0 0, .slice none 0 0] 25)).alloc (.cells #[.slice A ps.length c, .slice none 0 0] 25)).heap.size by simp)
  clear y0 z0 z0' z0''
  generalize (((w.alloc (.cells #[.slice A ps.length c, .slice F fs.length d] 25)).alloc (.cells #[.slice none 0 0, .slice none 0 0] 25)).alloc (.cells #[.slice A ps.length c, .slice none 0 0] 25)) = W0 at *
  go_wp2
  go_loopw [7] (fun ti wr => ∃ (k : Nat) (x : List Nat) (vb : Value), ti = .int .i64 k ∧ k ≤ l.length ∧ Hid (l.take k = intL x) ∧ Hid (IdxL fs x) ∧ Hid (Cel wr (w.heap.size + 1 + 1) 25 #[.slice A ps.length c, vb]) ∧ Hid (wr.ownsRow (w.heap.size + 1 + 1 + 1) 40 4 vb x.length (fasV (selF fs x))) ∧ Hid (Cel wr w.heap.size 25 #[.slice A ps.length c, .slice F fs.length d]) ∧ Hid (Cel wr (w.heap.size + 1) 25 #[.slice none 0 0, .slice none 0 0]) ∧ Hid (w.heap.size + 1 + 1 + 1 ≤ wr.heap.size) ∧ Hid (Below w.heap.size w wr)) (fun ti _ => l.length - (intOf ti).toNat)
  case atStart => exact ⟨0, [], _, rfl, by omega, rfl, ⟨List.Pairwise.nil, by simp⟩, HO0.out, World.ownsRow_nil _ _ _ _, HY0.out, HR0.out, HSz0.out, HB0.out⟩
  case round =>
    clear HY0 HR0 HO0 HSz0 HB0
    obtain ⟨k, x, vb, rfl, hk, HT, HI, HO, HW, HY, HR, HSz, HB⟩ := hrel
    obtain ⟨Ab, cb, rfl, hbl⟩ := own_shape HW.out
    by_cases hlt : k < l.length
    · have hki : (k : Int) < (l.length : Int) := by omega
      have k1 : (0 : Int) ≤ (k : Int) := by omega
      obtain ⟨_, _, _, e, _, _, _, hcl2⟩ := HV.out.open2 (by decide)
      cases e
      obtain ⟨bl, ol, e, _, hce⟩ := hcl2 (by omega)
      subst e
      have HCw := Lib.hid (fun K u hu => hce K u hu)
      have HCe := Lib.hid (fun K u hu => below_cell HB.out (hce K u hu))
      have z1 := HY.out.cell 1 (.slice F fs.length d) rfl
      have hlm : (l.length : Int) ≤ 9223372036854775807 := by omega
      clear hce
      cases hg : goesB fs l k with
      | true =>
        obtain ⟨j, hj1, hj2, hj3, hj4⟩ := kept_next hlt HT.out HI.out hg
        have hgk : l[k]? = some (j : Int) := by rw [← hj1, List.getD_eq_getElem?_getD, List.getElem?_eq_getElem hlt]; rfl
        have d1 := HCe.out k (.int .i64 (j : Int)) (by rw [List.getElem?_map, hgk]; rfl)
        have HDw := Lib.hid (HCw.out k (.int .i64 (j : Int)) (by rw [List.getElem?_map, hgk]; rfl))
        obtain ⟨bF, oF, eF, _, hcF⟩ := HN.out.fact (by omega)
        have HF1 := Lib.hid (fun j f hf => hcF j f hf)
        subst eF
        have hjn : ¬ ((fs.length : Int) ≤ (j : Int)) := by omega
        have hj0 : ¬ ((j : Int) < 0) := by omega
        have n1 : decide ((j : Int) < 0) = false := decide_eq_false (by omega)
        have n2 : decide ((fs.length : Int) ≤ (j : Int)) = false := decide_eq_false (by omega)
        have hfl : (j : Int) < (fs.length : Int) := by omega
        have HKT := Lib.hid hj4
        have HKI := Lib.hid hj3
        have HPr := Lib.hid (fun (K : Nat) (hK : k = K + 1) => show ∃ z : Int, l[K]? = some z ∧ z < (j : Int) by
          have hg2 := hg
          unfold goesB at hg2
          rw [hj1, hK, Nat.add_sub_cancel] at hg2
          simp only [Bool.and_eq_true, Bool.or_eq_true, decide_eq_true_eq] at hg2
          refine ⟨l.getD K 0, ?_, by omega⟩
          rw [List.getD_eq_getElem?_getD, List.getElem?_eq_getElem (by omega)]
          rfl)
        clear hcF hj1 hj3 hj4 hg hgk
        go_upto_region 5 with fail
        go_cut [47] (fun t wx => t = .bool false ∧ ∃ q, wx = wr.drewN q)
        case first =>
          rcases Nat.eq_zero_or_pos k with hk0 | hk0
          · have n3 : decide (0 < k) = false := decide_eq_false (by omega)
            clear hk0
            go_quiet (fail)
            go_wp2
            go_meet
            exact ⟨rfl, _, rfl⟩
          · obtain ⟨K, hK⟩ : ∃ K, k = K + 1 := ⟨k - 1, by omega⟩
            obtain ⟨zz, hz1, hz2⟩ := HPr.out K hK
            have dK := HCe.out K (.int .i64 zz) (by rw [List.getElem?_map, hz1]; rfl)
            have n3 : decide (0 < k) = true := decide_eq_true hk0
            have n4 : decide ((j : Int) ≤ zz) = false := decide_eq_false (by omega)
            have hwk : IntKind.i64.wrap ((k : Int) - 1) = (K : Int) := by rw [IntWalk.i64_in _ (by omega)]; omega
            have hKl : (K : Int) < (l.length : Int) := by omega
            have hK0 : (0 : Int) ≤ (K : Int) := by omega
            clear hk0 hK hz1 hz2
            go_quiet (fail)
            go_wp2
            go_meet
            exact ⟨rfl, _, rfl⟩
        case rest =>
          obtain ⟨rfl, q, hwx⟩ := hcut
          subst hwx
          have hfj : fs[j]? = some fs[j] := List.getElem?_eq_getElem (by omega)
          obtain ⟨g1, g2, g3, g4⟩ := HF1.out j _ hfj
          have HGw := Lib.hid (⟨g1, g2, g3, g4⟩ : _ ∧ _ ∧ _ ∧ _)
          replace g1 := below_cell HB.out g1
          replace g2 := below_cell HB.out g2
          replace g3 := below_cell HB.out g3
          replace g4 := below_cell HB.out g4
          have HSel := Lib.hid (show fasV (selF fs (x ++ [j])) = fasV (selF fs x) ++ faV fs[j] by
            rw [selF_snoc, show fs.getD j noFa = fs[j] by rw [List.getD_eq_getElem?_getD, hfj]; rfl]
            simp [fasV])
          have HLx := Lib.hid (idx_length HKI.out)
          generalize fs[j] = f at *
          obtain ⟨fk, fa, fb, ft⟩ := f
          simp only at g1 g2 g3 g4 HGw
          unfold faV at HSel
          simp only at HSel
          have HO1 : Hid (Cel (wr.drewN q) (w.heap.size + 1 + 1) 25 #[.slice A ps.length c, .slice Ab x.length cb]) := HO
          have HW1 : Hid ((wr.drewN q).ownsRow (w.heap.size + 1 + 1 + 1) 40 4 (.slice Ab x.length cb) x.length (fasV (selF fs x))) := HW
          have HY1 : Hid (Cel (wr.drewN q) w.heap.size 25 #[.slice A ps.length c, .slice (some ⟨bF, oF, none⟩) fs.length d]) := HY
          have HR1 : Hid (Cel (wr.drewN q) (w.heap.size + 1) 25 #[.slice none 0 0, .slice none 0 0]) := HR
          have HSz1 : Hid (w.heap.size + 1 + 1 + 1 ≤ (wr.drewN q).heap.size) := HSz
          have HB1 : Hid (Below w.heap.size w (wr.drewN q)) := below_drewN HB.out q
          have HBq : Hid (Below wr.heap.size wr (wr.drewN q)) := below_drewN (Below.refl wr.heap.size wr) q
          replace g1 := below_cell HBq.out g1
          replace g2 := below_cell HBq.out g2
          replace g3 := below_cell HBq.out g3
          replace g4 := below_cell HBq.out g4
          replace d1 := below_cell HBq.out d1
          clear HPr HCe HF1 hfj n1 n2 hjn hj0 HO HW HY HR HSz HB z1 HBq
          generalize wr.drewN q = W1 at *
          have HD : Hid (w.cell? ⟨bl, ol + k, none⟩ = some (.int .i64 (j : Int))) := HDw
          have HG : Hid (w.cell? ⟨bF, oF + j * 4, none⟩ = some (.int .i64 fk) ∧ w.cell? ⟨bF, oF + j * 4 + 1, none⟩ = some (.string fa) ∧ w.cell? ⟨bF, oF + j * 4 + 2, none⟩ = some (.string fb) ∧ w.cell? ⟨bF, oF + j * 4 + 3, none⟩ = some (.int .i64 ft)) := HGw
          go_upto_region 7 with fail
          have HS0 := Lib.hid (fun (w' : World) (hY : Cel w' w.heap.size 25 #[.slice A ps.length c, .slice (some ⟨bF, oF, none⟩) fs.length d]) (hb : Below w.heap.size w w') => (⟨hY, below_cell hb HD.out, below_cell hb HG.out.1, below_cell hb HG.out.2.1, below_cell hb HG.out.2.2.1, below_cell hb HG.out.2.2.2⟩ : Cel w' w.heap.size 25 #[.slice A ps.length c, .slice (some ⟨bF, oF, none⟩) fs.length d] ∧ w'.cell? ⟨bl, ol + k, none⟩ = some (.int .i64 (j : Int)) ∧ w'.cell? ⟨bF, oF + j * 4, none⟩ = some (.int .i64 fk) ∧ w'.cell? ⟨bF, oF + j * 4 + 1, none⟩ = some (.string fa) ∧ w'.cell? ⟨bF, oF + j * 4 + 2, none⟩ = some (.string fb) ∧ w'.cell? ⟨bF, oF + j * 4 + 3, none⟩ = some (.int .i64 ft)))
          have HS1 := HS0.out W1.drew HY1.out (below_drew HB1.out)
          refine wp_region_held_drew (S := fun w' => Cel w' w.heap.size 25 #[.slice A ps.length c, .slice (some ⟨bF, oF, none⟩) fs.length d] ∧ w'.cell? ⟨bl, ol + k, none⟩ = some (.int .i64 (j : Int)) ∧ w'.cell? ⟨bF, oF + j * 4, none⟩ = some (.int .i64 fk) ∧ w'.cell? ⟨bF, oF + j * 4 + 1, none⟩ = some (.string fa) ∧ w'.cell? ⟨bF, oF + j * 4 + 2, none⟩ = some (.string fb) ∧ w'.cell? ⟨bF, oF + j * 4 + 3, none⟩ = some (.int .i64 ft)) (by kernel_rfl) HS1 (fun hHeld => ?_)
          clear HS1
          have HO2 : Hid (Cel W1.drew (w.heap.size + 1 + 1) 25 #[.slice A ps.length c, .slice Ab x.length cb]) := HO1
          have HW2 : Hid (W1.drew.ownsRow (w.heap.size + 1 + 1 + 1) 40 4 (.slice Ab x.length cb) x.length (fasV (selF fs x))) := Lib.hid HW1.out.drew
          have HY2 : Hid (Cel W1.drew w.heap.size 25 #[.slice A ps.length c, .slice (some ⟨bF, oF, none⟩) fs.length d]) := HY1
          have HR2 : Hid (Cel W1.drew (w.heap.size + 1) 25 #[.slice none 0 0, .slice none 0 0]) := HR1
          have HSz2 : Hid (w.heap.size + 1 + 1 + 1 ≤ W1.drew.heap.size) := HSz1
          have HB2 : Hid (Below w.heap.size w W1.drew) := below_drew HB1.out
          clear HO1 HW1 HY1 HR1 HSz1 HB1 g1 g2 g3 g4 d1
          generalize W1.drew = V at *
          refine wpAnyH_takeD (i := 0) (v := ?_) 49 rfl (by kernel_rfl) (by kernel_rfl) (by kernel_rfl) (fun _ _ _ h => h) (Or.inl ⟨by rfl, ?_⟩) (by assumption) rfl ?_
          rotate_left
          · intro w' hSw
            have z1 := hSw.1.cell 1 _ rfl; have d1 := hSw.2.1; have g1 := hSw.2.2.1; have g2 := hSw.2.2.2.1; have g3 := hSw.2.2.2.2.1; have g4 := hSw.2.2.2.2.2
            go_simp <;> with_reducible rfl
          simp only [List.setIfInBounds_toArray, List.set_cons_succ, List.set_cons_zero]
          refine wpAnyH_takeD (i := 2) (v := ?_) 51 rfl (by kernel_rfl) (by kernel_rfl) (by kernel_rfl) (fun _ _ _ h => h) (Or.inl ⟨by rfl, ?_⟩) (by assumption) rfl ?_
          rotate_left
          · intro w' hSw
            have z1 := hSw.1.cell 1 _ rfl; have d1 := hSw.2.1; have g1 := hSw.2.2.1; have g2 := hSw.2.2.2.1; have g3 := hSw.2.2.2.2.1; have g4 := hSw.2.2.2.2.2
            go_simp <;> with_reducible rfl
          simp only [List.setIfInBounds_toArray, List.set_cons_succ, List.set_cons_zero]
          refine wpAnyH_takeD (i := 3) (v := ?_) 52 rfl (by kernel_rfl) (by kernel_rfl) (by kernel_rfl) (fun _ _ _ h => h) (Or.inl ⟨by rfl, ?_⟩) (by assumption) rfl ?_
          rotate_left
          · intro w' hSw
            have z1 := hSw.1.cell 1 _ rfl; have d1 := hSw.2.1; have g1 := hSw.2.2.1; have g2 := hSw.2.2.2.1; have g3 := hSw.2.2.2.2.1; have g4 := hSw.2.2.2.2.2
            go_simp <;> with_reducible rfl
          simp only [List.setIfInBounds_toArray, List.set_cons_succ, List.set_cons_zero]
          refine wpAnyH_takeD (i := 4) (v := ?_) 53 rfl (by kernel_rfl) (by kernel_rfl) (by kernel_rfl) (fun _ _ _ h => h) (Or.inl ⟨by rfl, ?_⟩) (by assumption) rfl ?_
          rotate_left
          · intro w' hSw
            have z1 := hSw.1.cell 1 _ rfl; have d1 := hSw.2.1; have g1 := hSw.2.2.1; have g2 := hSw.2.2.2.1; have g3 := hSw.2.2.2.2.1; have g4 := hSw.2.2.2.2.2
            go_simp <;> with_reducible rfl
          simp only [List.setIfInBounds_toArray, List.set_cons_succ, List.set_cons_zero]
          refine wpAnyH_takeD (i := 5) (v := ?_) 54 rfl (by kernel_rfl) (by kernel_rfl) (by kernel_rfl) (fun _ _ _ h => h) (Or.inl ⟨by rfl, ?_⟩) (by assumption) rfl ?_
          rotate_left
          · intro w' hSw
            have z1 := hSw.1.cell 1 _ rfl; have d1 := hSw.2.1; have g1 := hSw.2.2.1; have g2 := hSw.2.2.2.1; have g3 := hSw.2.2.2.2.1; have g4 := hSw.2.2.2.2.2
            go_simp <;> with_reducible rfl
          simp only [List.setIfInBounds_toArray, List.set_cons_succ, List.set_cons_zero]
          refine wpAnyH_takeD (i := 6) (v := ?_) 55 rfl (by kernel_rfl) (by kernel_rfl) (by kernel_rfl) (fun _ _ _ h => h) (Or.inl ⟨by rfl, ?_⟩) (by assumption) rfl ?_
          rotate_left
          · intro w' hSw
            have z1 := hSw.1.cell 1 _ rfl; have d1 := hSw.2.1; have g1 := hSw.2.2.1; have g2 := hSw.2.2.2.1; have g3 := hSw.2.2.2.2.1; have g4 := hSw.2.2.2.2.2
            go_simp <;> with_reducible rfl
          simp only [List.setIfInBounds_toArray, List.set_cons_succ, List.set_cons_zero]
          refine wpAnyH_takeD (i := 7) (v := ?_) 56 rfl (by kernel_rfl) (by kernel_rfl) (by kernel_rfl) (fun _ _ _ h => h) (Or.inl ⟨by rfl, ?_⟩) (by assumption) rfl ?_
          rotate_left
          · intro w' hSw
            have z1 := hSw.1.cell 1 _ rfl; have d1 := hSw.2.1; have g1 := hSw.2.2.1; have g2 := hSw.2.2.2.1; have g3 := hSw.2.2.2.2.1; have g4 := hSw.2.2.2.2.2
            go_simp <;> with_reducible rfl
          simp only [List.setIfInBounds_toArray, List.set_cons_succ, List.set_cons_zero]
          refine wpAnyH_takeD (i := 8) (v := ?_) 57 rfl (by kernel_rfl) (by kernel_rfl) (by kernel_rfl) (fun _ _ _ h => h) (Or.inl ⟨by rfl, ?_⟩) (by assumption) rfl ?_
          rotate_left
          · intro w' hSw
            have z1 := hSw.1.cell 1 _ rfl; have d1 := hSw.2.1; have g1 := hSw.2.2.1; have g2 := hSw.2.2.2.1; have g3 := hSw.2.2.2.2.1; have g4 := hSw.2.2.2.2.2
            go_simp <;> with_reducible rfl
          simp only [List.setIfInBounds_toArray, List.set_cons_succ, List.set_cons_zero]
          refine wpAnyH_takeD (i := 9) (v := ?_) 58 rfl (by kernel_rfl) (by kernel_rfl) (by kernel_rfl) (fun _ _ _ h => h) (Or.inl ⟨by rfl, ?_⟩) (by assumption) rfl ?_
          rotate_left
          · intro w' hSw
            have z1 := hSw.1.cell 1 _ rfl; have d1 := hSw.2.1; have g1 := hSw.2.2.1; have g2 := hSw.2.2.2.1; have g3 := hSw.2.2.2.2.1; have g4 := hSw.2.2.2.2.2
            go_simp <;> with_reducible rfl
          simp only [List.setIfInBounds_toArray, List.set_cons_succ, List.set_cons_zero]
          refine wpAnyH_ready (rs := [1, 10]) (by kernel_rfl) (by simp) ?_
          refine AllReadyH.cons (o := _) rfl (fun K hK => ?_) (AllReadyH.cons (o := _) rfl (fun K hK => ?_) AllReadyH.nil)
          · have o1 := HO2.out.cell 1 _ rfl
            go_simp
            refine hK.out _ _ (HS0.out _ HY2.out HB2.out) (fun hHeld2 => ?_)
            clear hK K o1
            refine wpAnyH_ready (rs := [10]) (by kernel_rfl) (by simp) ?_
            refine AllReadyH.cons (o := _) rfl (fun K hK => ?_) AllReadyH.nil
            go_simp
            refine hK.out _ _ (HS0.out _ (HY2.out.alloc _) (HB2.out.alloc HB2.out.size _)) (fun hHeld3 => ?_)
            clear hK K
            refine wpAnyH_ready (rs := [11]) (by kernel_rfl) (by simp) ?_
            refine AllReadyH.cons (o := _) rfl (fun K hK => ?_) AllReadyH.nil
            have HSx := Lib.hid (Sl.new (s := 4) V 40 1 1 #[.int .i64 fk, .string fa, .string fb, .int .i64 ft] rfl (Nat.le_refl _) (by decide))
            refine stepFactB (.tmp 50) (.tmp 59) rfl rfl (by rfl) (by rfl) (HW2.out.alloc (.cells #[.int .i64 fk, .string fa, .string fb, .int .i64 ft] 40)) HSx.out (by simp [Value.oneCell']) (N := x.length + 1) (by simp; omega) (by have := HLx.out; have := HM.out; simp at *; omega) (by have := HSz2.out; simp; omega) ?_
            intro A5 c5 w5 hap
            have HBn := Lib.hid (below_of_own hap.grown (HW2.out.alloc (.cells #[.int .i64 fk, .string fa, .string fb, .int .i64 ft] 40)) (HB2.out.alloc HB2.out.size (.cells #[.int .i64 fk, .string fa, .string fb, .int .i64 ft] 40)) (by omega))
            have HYn := Lib.hid ((HY2.out.alloc (.cells #[.int .i64 fk, .string fa, .string fb, .int .i64 ft] 40)).kept hap.grown (fun e => by have := own_ge HW2.out e.symm; omega))
            have HOn := Lib.hid ((HO2.out.alloc (.cells #[.int .i64 fk, .string fa, .string fb, .int .i64 ft] 40)).kept hap.grown (fun e => by have := own_ge HW2.out e.symm; omega))
            have HRn := Lib.hid ((HR2.out.alloc (.cells #[.int .i64 fk, .string fa, .string fb, .int .i64 ft] 40)).kept hap.grown (fun e => by have := own_ge HW2.out e.symm; omega))
            have HWn := Lib.hid hap.own
            have HSn := Lib.hid (show w.heap.size + 1 + 1 + 1 ≤ w5.heap.size by have := HSz2.out; have := hap.grown.size; simp at this; omega)
            clear hap
            go_simp
            refine hK.out _ _ (HS0.out _ HYn.out HBn.out) (fun hHeld4 => ?_)
            clear hK K
            refine wpAnyH_takeD (i := 12) (v := ?_) 61 rfl (by kernel_rfl) (by kernel_rfl) (by kernel_rfl) (fun _ _ _ h => h) (Or.inl ⟨by rfl, ?_⟩) (by assumption) rfl ?_
            rotate_left
            · intro w' hSw
              go_simp <;> with_reducible rfl
            simp only [List.setIfInBounds_toArray, List.set_cons_succ, List.set_cons_zero]
            have f1 := HOn.out.frozen 1
            have o1 := HOn.out.cell 1 _ rfl
            refine wpAnyH_ready (rs := [13]) (by kernel_rfl) (by simp) ?_
            refine AllReadyH.cons (o := _) rfl (fun K hK => ?_) AllReadyH.nil
            go_simp
            have HYz := Lib.hid (HYn.out.other (p := ⟨(w.heap.size + 1 + 1), 1, none⟩) (by simp; omega) (.slice A5 (x.length + 1) c5))
            have HBz := Lib.hid (HBn.out.setCell (p := ⟨(w.heap.size + 1 + 1), 1, none⟩) (by simp; omega) (.slice A5 (x.length + 1) c5))
            refine hK.out _ _ (HS0.out _ HYz.out HBz.out) (fun hHeld5 => ?_)
            clear hK K
            refine wpAnyH_done (by kernel_rfl) ?_ _
            go_wp2
            go_roundw
            case rel =>
              refine ⟨k + 1, x ++ [j], .slice A5 (x.length + 1) c5, by go_num, by omega, HKT.out, HKI.out, HOn.out.setAt 1 _, ?_, HYz.out, HRn.out.other (p := ⟨(w.heap.size + 1 + 1), 1, none⟩) (by simp) _, ?_, HBz.out⟩
              · rw [HSel.out, List.length_append, List.length_singleton]
                exact own_ne HWn.out (fun e => by have := own_ge HWn.out e; simp at this; omega) _
              · exact Lib.hid (by have := HSn.out; simpa using this)
            case measure => simp [intOf]; omega
          · go_simp
            refine hK.out _ _ (HS0.out _ (HY2.out.alloc _) (HB2.out.alloc HB2.out.size _)) (fun hHeld3 => ?_)
            clear hK K
            have o1 := (HO2.out.alloc (.cells #[.int .i64 fk, .string fa, .string fb, .int .i64 ft] 40)).cell 1 _ rfl
            refine wpAnyH_ready (rs := [1]) (by kernel_rfl) (by simp) ?_
            refine AllReadyH.cons (o := _) rfl (fun K hK => ?_) AllReadyH.nil
            go_simp
            refine hK.out _ _ (HS0.out _ (HY2.out.alloc _) (HB2.out.alloc HB2.out.size _)) (fun hHeld2 => ?_)
            clear o1
            clear hK K
            refine wpAnyH_ready (rs := [11]) (by kernel_rfl) (by simp) ?_
            refine AllReadyH.cons (o := _) rfl (fun K hK => ?_) AllReadyH.nil
            have HSx := Lib.hid (Sl.new (s := 4) V 40 1 1 #[.int .i64 fk, .string fa, .string fb, .int .i64 ft] rfl (Nat.le_refl _) (by decide))
            refine stepFactB (.tmp 50) (.tmp 59) rfl rfl (by rfl) (by rfl) (HW2.out.alloc (.cells #[.int .i64 fk, .string fa, .string fb, .int .i64 ft] 40)) HSx.out (by simp [Value.oneCell']) (N := x.length + 1) (by simp; omega) (by have := HLx.out; have := HM.out; simp at *; omega) (by have := HSz2.out; simp; omega) ?_
            intro A5 c5 w5 hap
            have HBn := Lib.hid (below_of_own hap.grown (HW2.out.alloc (.cells #[.int .i64 fk, .string fa, .string fb, .int .i64 ft] 40)) (HB2.out.alloc HB2.out.size (.cells #[.int .i64 fk, .string fa, .string fb, .int .i64 ft] 40)) (by omega))
            have HYn := Lib.hid ((HY2.out.alloc (.cells #[.int .i64 fk, .string fa, .string fb, .int .i64 ft] 40)).kept hap.grown (fun e => by have := own_ge HW2.out e.symm; omega))
            have HOn := Lib.hid ((HO2.out.alloc (.cells #[.int .i64 fk, .string fa, .string fb, .int .i64 ft] 40)).kept hap.grown (fun e => by have := own_ge HW2.out e.symm; omega))
            have HRn := Lib.hid ((HR2.out.alloc (.cells #[.int .i64 fk, .string fa, .string fb, .int .i64 ft] 40)).kept hap.grown (fun e => by have := own_ge HW2.out e.symm; omega))
            have HWn := Lib.hid hap.own
            have HSn := Lib.hid (show w.heap.size + 1 + 1 + 1 ≤ w5.heap.size by have := HSz2.out; have := hap.grown.size; simp at this; omega)
            clear hap
            go_simp
            refine hK.out _ _ (HS0.out _ HYn.out HBn.out) (fun hHeld4 => ?_)
            clear hK K
            refine wpAnyH_takeD (i := 12) (v := ?_) 61 rfl (by kernel_rfl) (by kernel_rfl) (by kernel_rfl) (fun _ _ _ h => h) (Or.inl ⟨by rfl, ?_⟩) (by assumption) rfl ?_
            rotate_left
            · intro w' hSw
              go_simp <;> with_reducible rfl
            simp only [List.setIfInBounds_toArray, List.set_cons_succ, List.set_cons_zero]
            have f1 := HOn.out.frozen 1
            have o1 := HOn.out.cell 1 _ rfl
            refine wpAnyH_ready (rs := [13]) (by kernel_rfl) (by simp) ?_
            refine AllReadyH.cons (o := _) rfl (fun K hK => ?_) AllReadyH.nil
            go_simp
            have HYz := Lib.hid (HYn.out.other (p := ⟨(w.heap.size + 1 + 1), 1, none⟩) (by simp; omega) (.slice A5 (x.length + 1) c5))
            have HBz := Lib.hid (HBn.out.setCell (p := ⟨(w.heap.size + 1 + 1), 1, none⟩) (by simp; omega) (.slice A5 (x.length + 1) c5))
            refine hK.out _ _ (HS0.out _ HYz.out HBz.out) (fun hHeld5 => ?_)
            clear hK K
            refine wpAnyH_done (by kernel_rfl) ?_ _
            go_wp2
            go_roundw
            case rel =>
              refine ⟨k + 1, x ++ [j], .slice A5 (x.length + 1) c5, by go_num, by omega, HKT.out, HKI.out, HOn.out.setAt 1 _, ?_, HYz.out, HRn.out.other (p := ⟨(w.heap.size + 1 + 1), 1, none⟩) (by simp) _, ?_, HBz.out⟩
              · rw [HSel.out, List.length_append, List.length_singleton]
                exact own_ne HWn.out (fun e => by have := own_ge HWn.out e; simp at this; omega) _
              · exact Lib.hid (by have := HSn.out; simpa using this)
            case measure => simp [intOf]; omega
      | false =>
        have HSt := Lib.hid (fun (y : List Nat) (hy : IdxL fs y) => kept_stop hlt hg hy)
        obtain ⟨z, hz⟩ : ∃ z : Int, l[k]? = some z := ⟨_, List.getElem?_eq_getElem hlt⟩
        have hzd : l.getD k 0 = z := by rw [List.getD_eq_getElem?_getD, hz]; rfl
        have d1 := HCe.out k (.int .i64 z) (by rw [List.getElem?_map, hz]; rfl)
        unfold goesB at hg
        rw [hzd] at hg
        by_cases c1 : z < 0
        · have n1 : decide (z < 0) = true := decide_eq_true c1
          clear hg hz hzd
          go_upto_region 5 with fail
          go_quiet (fail)
          have HOe : Hid (Cel (wr.drewN nq) (w.heap.size + 1 + 1) 25 #[.slice A ps.length c, .slice Ab x.length cb]) := HO
          have HWe : Hid ((wr.drewN nq).ownsRow (w.heap.size + 1 + 1 + 1) 40 4 (.slice Ab x.length cb) x.length (fasV (selF fs x))) := HW
          have HRe : Hid (Cel (wr.drewN nq) (w.heap.size + 1) 25 #[.slice none 0 0, .slice none 0 0]) := HR
          have HBe : Hid (Below w.heap.size w (wr.drewN nq)) := below_drewN HB.out nq
          generalize wr.drewN nq = We at *
          have o0 := HOe.out.cell 0 _ rfl
          have o1 := HOe.out.cell 1 _ rfl
          have q0 := HRe.out.frozen 0
          have q1 := HRe.out.frozen 1
          have q2 := HRe.out.cell 0 _ rfl
          have q3 := HRe.out.cell 1 _ rfl
          go_wp2
          have kk := HRe.out.set2 (.slice A ps.length c) (.slice Ab x.length cb)
          have k0 := kk.cell 0 _ rfl
          have k1' := kk.cell 1 _ rfl
          clear kk
          have q4 := (HRe.out.setAt 0 (.slice A ps.length c)).cell 1 (.slice none 0 0) rfl
          have HSl := Lib.hid (((Sl.of_own HWe.out).setCell q2 (fun u hu => fas_plain hu _ _ _) (.slice A ps.length c)).setCell q4 (fun u hu => fas_plain hu _ _ _) (.slice Ab x.length cb))
          have HBf := Lib.hid ((HBe.out.setCell (p := ⟨(w.heap.size + 1), 0, none⟩) (by simp) (.slice A ps.length c)).setCell (p := ⟨(w.heap.size + 1), 1, none⟩) (by simp) (.slice Ab x.length cb))
          clear q4
          exact bodyPost_ret (v := .tuple #[.agg #[.slice A ps.length c, .slice Ab x.length cb], .bool false]) (by simp [results, Tryd.results34, go_sem, k0, k1']) rfl ⟨HBf.out, x, false, Ab, cb, rfl, HSl.out, HI.out, (fun e => by cases e), (fun y hy e => absurd e (HSt.out y hy))⟩
        · have n1 : decide (z < 0) = false := decide_eq_false c1
          by_cases c2 : (fs.length : Int) ≤ z
          · have n2 : decide ((fs.length : Int) ≤ z) = true := decide_eq_true c2
            clear hg hz hzd
            go_upto_region 5 with fail
            go_quiet (fail)
            have HOe : Hid (Cel (wr.drewN nq) (w.heap.size + 1 + 1) 25 #[.slice A ps.length c, .slice Ab x.length cb]) := HO
            have HWe : Hid ((wr.drewN nq).ownsRow (w.heap.size + 1 + 1 + 1) 40 4 (.slice Ab x.length cb) x.length (fasV (selF fs x))) := HW
            have HRe : Hid (Cel (wr.drewN nq) (w.heap.size + 1) 25 #[.slice none 0 0, .slice none 0 0]) := HR
            have HBe : Hid (Below w.heap.size w (wr.drewN nq)) := below_drewN HB.out nq
            generalize wr.drewN nq = We at *
            have o0 := HOe.out.cell 0 _ rfl
            have o1 := HOe.out.cell 1 _ rfl
            have q0 := HRe.out.frozen 0
            have q1 := HRe.out.frozen 1
            have q2 := HRe.out.cell 0 _ rfl
            have q3 := HRe.out.cell 1 _ rfl
            go_wp2
            have kk := HRe.out.set2 (.slice A ps.length c) (.slice Ab x.length cb)
            have k0 := kk.cell 0 _ rfl
            have k1' := kk.cell 1 _ rfl
            clear kk
            have q4 := (HRe.out.setAt 0 (.slice A ps.length c)).cell 1 (.slice none 0 0) rfl
            have HSl := Lib.hid (((Sl.of_own HWe.out).setCell q2 (fun u hu => fas_plain hu _ _ _) (.slice A ps.length c)).setCell q4 (fun u hu => fas_plain hu _ _ _) (.slice Ab x.length cb))
            have HBf := Lib.hid ((HBe.out.setCell (p := ⟨(w.heap.size + 1), 0, none⟩) (by simp) (.slice A ps.length c)).setCell (p := ⟨(w.heap.size + 1), 1, none⟩) (by simp) (.slice Ab x.length cb))
            clear q4
            exact bodyPost_ret (v := .tuple #[.agg #[.slice A ps.length c, .slice Ab x.length cb], .bool false]) (by simp [results, Tryd.results34, go_sem, k0, k1']) rfl ⟨HBf.out, x, false, Ab, cb, rfl, HSl.out, HI.out, (fun e => by cases e), (fun y hy e => absurd e (HSt.out y hy))⟩
          · have n2 : decide ((fs.length : Int) ≤ z) = false := decide_eq_false c2
            rcases Nat.eq_zero_or_pos k with hk0 | hk0
            · exfalso
              rw [decide_eq_true (show 0 ≤ z by omega), decide_eq_true (show z < (fs.length : Int) by omega), decide_eq_true hk0] at hg
              cases hg
            · obtain ⟨K, hK⟩ : ∃ K, k = K + 1 := ⟨k - 1, by omega⟩
              obtain ⟨zz, hz1⟩ : ∃ zz : Int, l[K]? = some zz := ⟨_, List.getElem?_eq_getElem (by omega)⟩
              have hz2 : ¬ zz < z := by
                intro q
                rw [decide_eq_true (show 0 ≤ z by omega), decide_eq_true (show z < (fs.length : Int) by omega), decide_eq_false (show ¬ k = 0 by omega), hK, Nat.add_sub_cancel, List.getD_eq_getElem?_getD, hz1] at hg
                simp at hg
                omega
              have dK := HCe.out K (.int .i64 zz) (by rw [List.getElem?_map, hz1]; rfl)
              have n3 : decide (0 < k) = true := decide_eq_true hk0
              have n4 : decide (z ≤ zz) = true := decide_eq_true (by omega)
              have hwk : IntKind.i64.wrap ((k : Int) - 1) = (K : Int) := by rw [IntWalk.i64_in _ (by omega)]; omega
              have hKl : (K : Int) < (l.length : Int) := by omega
              have hK0 : (0 : Int) ≤ (K : Int) := by omega
              clear hk0 hK hz1 hz2 hg hz hzd
              go_upto_region 5 with fail
              go_quiet (fail)
              have HOe : Hid (Cel (wr.drewN nq) (w.heap.size + 1 + 1) 25 #[.slice A ps.length c, .slice Ab x.length cb]) := HO
              have HWe : Hid ((wr.drewN nq).ownsRow (w.heap.size + 1 + 1 + 1) 40 4 (.slice Ab x.length cb) x.length (fasV (selF fs x))) := HW
              have HRe : Hid (Cel (wr.drewN nq) (w.heap.size + 1) 25 #[.slice none 0 0, .slice none 0 0]) := HR
              have HBe : Hid (Below w.heap.size w (wr.drewN nq)) := below_drewN HB.out nq
              generalize wr.drewN nq = We at *
              have o0 := HOe.out.cell 0 _ rfl
              have o1 := HOe.out.cell 1 _ rfl
              have q0 := HRe.out.frozen 0
              have q1 := HRe.out.frozen 1
              have q2 := HRe.out.cell 0 _ rfl
              have q3 := HRe.out.cell 1 _ rfl
              go_wp2
              have kk := HRe.out.set2 (.slice A ps.length c) (.slice Ab x.length cb)
              have k0 := kk.cell 0 _ rfl
              have k1' := kk.cell 1 _ rfl
              clear kk
              have q4 := (HRe.out.setAt 0 (.slice A ps.length c)).cell 1 (.slice none 0 0) rfl
              have HSl := Lib.hid (((Sl.of_own HWe.out).setCell q2 (fun u hu => fas_plain hu _ _ _) (.slice A ps.length c)).setCell q4 (fun u hu => fas_plain hu _ _ _) (.slice Ab x.length cb))
              have HBf := Lib.hid ((HBe.out.setCell (p := ⟨(w.heap.size + 1), 0, none⟩) (by simp) (.slice A ps.length c)).setCell (p := ⟨(w.heap.size + 1), 1, none⟩) (by simp) (.slice Ab x.length cb))
              clear q4
              exact bodyPost_ret (v := .tuple #[.agg #[.slice A ps.length c, .slice Ab x.length cb], .bool false]) (by simp [results, Tryd.results34, go_sem, k0, k1']) rfl ⟨HBf.out, x, false, Ab, cb, rfl, HSl.out, HI.out, (fun e => by cases e), (fun y hy e => absurd e (HSt.out y hy))⟩
    · have HEnd := Lib.hid (show l = intL x by have := HT.out; rwa [List.take_of_length_le (by omega)] at this)
      have HOe := HO
      have HWe := HW
      have HRe := HR
      have HBe := HB
      clear HO HW HR HB
      have o0 := HOe.out.cell 0 _ rfl
      have o1 := HOe.out.cell 1 _ rfl
      have q0 := HRe.out.frozen 0
      have q1 := HRe.out.frozen 1
      have q2 := HRe.out.cell 0 _ rfl
      have q3 := HRe.out.cell 1 _ rfl
      go_wp2
      have kk := HRe.out.set2 (.slice A ps.length c) (.slice Ab x.length cb)
      have k0 := kk.cell 0 _ rfl
      have k1' := kk.cell 1 _ rfl
      clear kk
      have q4 := (HRe.out.setAt 0 (.slice A ps.length c)).cell 1 (.slice none 0 0) rfl
      have HSl := Lib.hid (((Sl.of_own HWe.out).setCell q2 (fun u hu => fas_plain hu _ _ _) (.slice A ps.length c)).setCell q4 (fun u hu => fas_plain hu _ _ _) (.slice Ab x.length cb))
      have HBf := Lib.hid ((HBe.out.setCell (p := ⟨(w.heap.size + 1), 0, none⟩) (by simp) (.slice A ps.length c)).setCell (p := ⟨(w.heap.size + 1), 1, none⟩) (by simp) (.slice Ab x.length cb))
      clear q4
      exact bodyPost_ret (v := .tuple #[.agg #[.slice A ps.length c, .slice Ab x.length cb], .bool true]) (by simp [results, Tryd.results34, go_sem, k0, k1']) rfl ⟨HBf.out, x, true, Ab, cb, rfl, HSl.out, HI.out, (fun _ => HEnd.out), (fun _ _ _ => rfl)⟩
end
end Go.Proofs.YtdmcopjbckelmaaDoor
