/- Walks of the package date: Number, Between, Scheme. Conditions: those stated. -/
import Derived.Test.YthpjeclhignciaaDoorT9
namespace Go.Proofs.YthpjeclhignciaaDoor
open Go Go.RowKit Go.Shelf
attribute [local go_sem] Oper.semAt_some

/-- A date that is in a valid calendar: the place of its month, the month. -/
structure InC (ks : List ByteArray) (ys : List Yr) (d : Dt) (k : Nat) (m : Mo) : Prop where
  cal : calB ks ys = true
  at_ : (mos ys)[k]? = some m
  Y : (m.yr : Int) = d.Y
  M : (m.num : Int) = d.M
  S : m.sec = d.S
  D1 : 1 ≤ d.D
  D2 : d.D ≤ m.len
  num : numF d.Y d.M d.S (mos ys) 0 = some (k + 1, m)
theorem inC_of {ks : List ByteArray} {ys : List Yr} {d : Dt} (hc : calB ks ys = true) (h : inB ys d = true) : ∃ k m, InC ks ys d k m := by
  obtain ⟨k, m, h1, h2, h3, h4, h5, h6, h7⟩ := inF_month h
  exact ⟨k, m, hc, h1, h2, h3, h4, h5, h6, h7⟩
theorem InC.inB {ks : List ByteArray} {ys : List Yr} {d : Dt} {k : Nat} {m : Mo} (h : InC ks ys d k m) : inB ys d = true := by
  have := inF_of h.at_ h.D1 h.D2
  rw [h.Y, h.M, h.S] at this
  exact this
/-- The number of a day. -/
def dayOf (m : Mo) (d : Dt) : Int := m.day + d.D - 1
theorem InC.bd {ks : List ByteArray} {ys : List Yr} {d : Dt} {k : Nat} {m : Mo} (h : InC ks ys d k m) : 1 ≤ m.day ∧ m.day ≤ 300000 ∧ 1 ≤ d.D ∧ d.D ≤ 30 ∧ k ≤ 9600 := by
  obtain ⟨hl, _⟩ := calB_years h.cal
  obtain ⟨a, b, c, e⟩ := mos_day hl (List.mem_of_getElem? h.at_)
  have h1 := h.D1
  have h2 := h.D2
  have h3 : k < (mos ys).length := (List.getElem?_eq_some_iff.1 h.at_).1
  have h4 : (mos ys).length ≤ 24 * ys.length := mosL_len ys 0 1
  omega
theorem CalW.number {w : World} {v : Value} {ks : List ByteArray} {ys : List Yr} (h : CalW w v ks ys) {d : Dt} {k : Nat} {m : Mo} (hi : InC ks ys d k m) :
    Calls Tryd.prog 17 #[v, dtA d] w fun e w' => e = .returned (.tuple #[.int .i64 (dayOf m d), .int .i64 ((k : Int) + 1)]) ∧ Below w.heap.size w w' := by
  obtain ⟨hl, hok⟩ := calB_years hi.cal
  obtain ⟨b1, b2, b3, b4, _⟩ := hi.bd
  have := number_any v ks ys d.Y d.M d.D d.S (k + 1) m w h.cal hok hl b3 b4 hi.num b1 (by omega)
  simpa [dayOf, dtA] using this
/-- The date of a day is that day's. -/
theorem at_inC {ks : List ByteArray} {ys : List Yr} {n : Int} (hc : calB ks ys = true) {m : Mo} (h : atF (mos ys) n = some m) :
    ∃ k, InC ks ys ⟨m.yr, m.num, m.sec, n - m.day + 1⟩ k m ∧ dayOf m ⟨m.yr, m.num, m.sec, n - m.day + 1⟩ = n := by
  obtain ⟨⟨k, hk⟩, h1, h2⟩ := atF_some h
  refine ⟨k, ⟨hc, hk, rfl, rfl, rfl, by simp only; omega, by simp only; omega, ?_⟩, by unfold dayOf; simp only; omega⟩
  have := numF_at (mosL_sorted ys 0 1) hk 0
  show numF _ _ _ (mosL ys 0 1) 0 = _
  simpa using this
theorem slD1 (w : World) (d : Dt) (B : Nat) (hB : w.heap.size = B) : Sl (w.alloc (.cells #[.int .i64 d.Y, .int .i64 d.M, .bool d.S, .int .i64 d.D] 29)) 4 (.slice (some ⟨B, 0, none⟩) 1 1) (dtsV [d]) := by
  subst hB
  exact Sl.new (s := 4) w 29 1 1 #[.int .i64 d.Y, .int .i64 d.M, .bool d.S, .int .i64 d.D] rfl (by omega) (by omega)
theorem slD2 (w : World) (a b : Dt) (B : Nat) (hB : w.heap.size = B) : Sl (w.alloc (.cells #[.int .i64 a.Y, .int .i64 a.M, .bool a.S, .int .i64 a.D, .int .i64 b.Y, .int .i64 b.M, .bool b.S, .int .i64 b.D] 29)) 4 (.slice (some ⟨B, 0, none⟩) 2 2) (dtsV [a, b]) := by
  subst hB
  exact Sl.new (s := 4) w 29 2 2 #[.int .i64 a.Y, .int .i64 a.M, .bool a.S, .int .i64 a.D, .int .i64 b.Y, .int .i64 b.M, .bool b.S, .int .i64 b.D] rfl (by omega) (by omega)

set_option maxRecDepth 100000 in
set_option maxHeartbeats 2000000 in
theorem Number_no (v : Value) (ks : List ByteArray) (ys : List Yr) (d : Dt) (w : World) (hv : CalW w v ks ys) (hc : chF ks ys [d] ≠ 0) :
    Calls Tryd.prog 30 #[v, dtA d] w fun e w' => e = .returned (.tuple #[.int .i64 0, .int .i64 (chF ks ys [d])]) ∧ Below w.heap.size w w' := by
  obtain ⟨x, y, rfl⟩ := hv.shape
  obtain ⟨dY, dM, dS, dD⟩ := d
  have hB0 : Below w.heap.size w ((w.alloc (.cells #[x, y] 25)).alloc (.cells #[.int .i64 dY, .int .i64 dM, .bool dS, .int .i64 dD] 29)) := (below_alloc' _ _).alloc (by simp) _
  have hB1 := hB0.alloc hB0.size (.cells #[.int .i64 dY, .int .i64 dM, .bool dS, .int .i64 dD] 29)
  have hk := checks_any (.agg #[x, y]) ks ys _ [⟨dY, dM, dS, dD⟩] _ (hv.below hB1) (slD1 _ _ (w.heap.size + 1 + 1) (by simp))
  have hne : (chF ks ys [⟨dY, dM, dS, dD⟩] != 0) = true := by simpa using hc
  have HK := Lib.hid hk
  clear hk hv hc
  generalize chF ks ys [⟨dY, dM, dS, dD⟩] = q at *
  go_enter Tryd.func30, Tryd.ntmps30
  simp only [dtA]
  go_wp2_with (go_at_call 11; refine HK.out.mono ?_; rintro e w1 ⟨rfl, hb⟩)
  go_ret2
  exact ⟨rfl, below_then hB1 hb⟩

set_option maxRecDepth 100000 in
set_option maxHeartbeats 2000000 in
theorem Number_yes (v : Value) (ks : List ByteArray) (ys : List Yr) (d : Dt) (k : Nat) (m : Mo) (w : World) (hv : CalW w v ks ys) (hi : InC ks ys d k m) :
    Calls Tryd.prog 30 #[v, dtA d] w fun e w' => e = .returned (.tuple #[.int .i64 (dayOf m d), .int .i64 0]) ∧ Below w.heap.size w w' := by
  obtain ⟨x, y, rfl⟩ := hv.shape
  have hc : chF ks ys [d] = 0 := by unfold chF; rw [hi.cal]; simp [hi.inB]
  have hnum := fun w' (h : CalW w' (.agg #[x, y]) ks ys) => h.number hi
  obtain ⟨dY, dM, dS, dD⟩ := d
  have hB0 : Below w.heap.size w ((w.alloc (.cells #[x, y] 25)).alloc (.cells #[.int .i64 dY, .int .i64 dM, .bool dS, .int .i64 dD] 29)) := (below_alloc' _ _).alloc (by simp) _
  have hB1 := hB0.alloc hB0.size (.cells #[.int .i64 dY, .int .i64 dM, .bool dS, .int .i64 dD] 29)
  have Y0 := ((Cel.new w 25 #[x, y]).alloc (.cells #[.int .i64 dY, .int .i64 dM, .bool dS, .int .i64 dD] 29)).alloc (.cells #[.int .i64 dY, .int .i64 dM, .bool dS, .int .i64 dD] 29)
  have Y1 := (Cel.new (w.alloc (.cells #[x, y] 25)) 29 #[.int .i64 dY, .int .i64 dM, .bool dS, .int .i64 dD]).alloc (.cells #[.int .i64 dY, .int .i64 dM, .bool dS, .int .i64 dD] 29)
  simp only [World.size_alloc] at Y1
  have hk := checks_any (.agg #[x, y]) ks ys _ [⟨dY, dM, dS, dD⟩] _ (hv.below hB1) (slD1 _ _ (w.heap.size + 1 + 1) (by simp))
  rw [hc] at hk
  have HK := Lib.hid hk
  have HN := Lib.hid hnum
  have HV := Lib.hid (hv.below hB1)
  clear hk hv hc hi hnum
  simp only [dtA] at HN ⊢
  generalize dayOf m ⟨dY, dM, dS, dD⟩ = dn at *
  go_enter Tryd.func30, Tryd.ntmps30
  go_wp2_with (first
    | (go_at_call 11; refine HK.out.mono ?_; rintro e w1 ⟨rfl, hb⟩; have T0 := Y0.below Y0.lt hb; have T1 := Y1.below Y1.lt hb; have z0 := T0.cell 0 _ rfl; have z1 := T0.cell 1 _ rfl; have u0 := T1.cell 0 _ rfl; have u1 := T1.cell 1 _ rfl; have u2 := T1.cell 2 _ rfl; have u3 := T1.cell 3 _ rfl)
    | (go_at_call 17; refine (HN.out _ (HV.out.below hb)).mono ?_; rintro e w2 ⟨rfl, hb2⟩))
  go_ret2
  exact ⟨rfl, below_then (below_then hB1 hb) hb2⟩
end Go.Proofs.YthpjeclhignciaaDoor
