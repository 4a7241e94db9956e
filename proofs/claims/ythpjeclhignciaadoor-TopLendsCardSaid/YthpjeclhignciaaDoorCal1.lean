/- The months of a calendar, their first days and lengths: plain mathematics. No condition. -/
import Derived.WalkKit
namespace Go.Proofs.YthpjeclhignciaaDoor

/-- A year, as Go has it. -/
structure Yr where
  king : Int
  name : ByteArray
  long : Int
  dbl : Int
/-- A month: its year, its number, whether it is the second one, the number of its first day, and how many days it has. -/
structure Mo where
  yr : Nat
  num : Nat
  sec : Bool
  day : Int
  len : Int
def bitOf (num : Nat) (sec : Bool) : Nat := if sec then 12 else num - 1
/-- How many days a month has. -/
def lenF (long : Int) (num : Nat) (sec : Bool) : Int := if long / 2 ^ bitOf num sec % 2 = 1 then 30 else 29
theorem lenF_bd (long : Int) (num : Nat) (sec : Bool) : 29 ≤ lenF long num sec ∧ lenF long num sec ≤ 30 := by unfold lenF; split <;> omega
/-- The months of a year from the n-th one on, k numbers; the first one begins on day d. -/
def mosY (i : Nat) (y : Yr) : (k n : Nat) → Int → List Mo
  | 0, _, _ => []
  | k + 1, n, d =>
    ⟨i, n, false, d, lenF y.long n false⟩ :: (if y.dbl = (n : Int) then ⟨i, n, true, d + lenF y.long n false, lenF y.long n true⟩ :: mosY i y k (n + 1) (d + lenF y.long n false + lenF y.long n true) else mosY i y k (n + 1) (d + lenF y.long n false))
/-- The first day behind the months of a year. -/
def endY (y : Yr) : (k n : Nat) → Int → Int
  | 0, _, d => d
  | k + 1, n, d => if y.dbl = n then endY y k (n + 1) (d + lenF y.long n false + lenF y.long n true) else endY y k (n + 1) (d + lenF y.long n false)
/-- All months of years, the first of which has the index i and begins on day d. -/
def mosL : List Yr → Nat → Int → List Mo
  | [], _, _ => []
  | y :: l, i, d => mosY i y 12 1 d ++ mosL l (i + 1) (endY y 12 1 d)
def mos (l : List Yr) : List Mo := mosL l 0 1

/-- Months in a row from day d on: each begins where the one before it ends. -/
def Row : List Mo → Int → Prop
  | [], _ => True
  | m :: l, d => m.day = d ∧ (29 ≤ m.len ∧ m.len ≤ 30) ∧ Row l (d + m.len)
def total (l : List Mo) : Int := (l.map (·.len)).sum
theorem total_nil : total [] = 0 := rfl
theorem total_cons (m : Mo) (l : List Mo) : total (m :: l) = m.len + total l := by simp [total]
theorem total_append (a b : List Mo) : total (a ++ b) = total a + total b := by simp [total]
theorem Row.append {a b : List Mo} {d : Int} (ha : Row a d) (hb : Row b (d + total a)) : Row (a ++ b) d := by
  induction a generalizing d with
  | nil => simpa [total] using hb
  | cons m l ih =>
    obtain ⟨h1, h2, h3⟩ := ha
    refine ⟨h1, h2, ih h3 ?_⟩
    rw [total_cons] at hb
    rwa [Int.add_assoc]
theorem mosY_row (i : Nat) (y : Yr) (k n : Nat) (d : Int) : Row (mosY i y k n d) d ∧ d + total (mosY i y k n d) = endY y k n d := by
  induction k generalizing n d with
  | zero => exact ⟨trivial, by simp [mosY, endY, total]⟩
  | succ k ih =>
    have b1 := lenF_bd y.long n false
    have b2 := lenF_bd y.long n true
    unfold mosY endY
    by_cases h : y.dbl = n
    · simp only [h, if_true]
      obtain ⟨i1, i2⟩ := ih (n + 1) (d + lenF y.long n false + lenF y.long n true)
      exact ⟨⟨rfl, b1, rfl, b2, i1⟩, by rw [total_cons, total_cons]; simp only; omega⟩
    · simp only [h, if_false]
      obtain ⟨i1, i2⟩ := ih (n + 1) (d + lenF y.long n false)
      exact ⟨⟨rfl, b1, i1⟩, by rw [total_cons]; simp only; omega⟩
theorem mosL_row (l : List Yr) (i : Nat) (d : Int) : Row (mosL l i d) d := by
  induction l generalizing i d with
  | nil => trivial
  | cons y l ih =>
    obtain ⟨h1, h2⟩ := mosY_row i y 12 1 d
    exact h1.append (by rw [h2]; exact ih _ _)
theorem mos_row (l : List Yr) : Row (mos l) 1 := mosL_row l 0 1
/-- The k-th month begins behind those ahead of it. -/
theorem Row.day {l : List Mo} {d : Int} (h : Row l d) {k : Nat} {m : Mo} (hk : l[k]? = some m) : m.day = d + total (l.take k) ∧ 29 ≤ m.len ∧ m.len ≤ 30 := by
  induction l generalizing d k with
  | nil => simp at hk
  | cons a l ih =>
    obtain ⟨h1, h2, h3⟩ := h
    cases k with
    | zero =>
      simp at hk
      subst hk
      exact ⟨by simp [h1, total], h2⟩
    | succ k =>
      obtain ⟨e1, e2⟩ := ih h3 (by simpa using hk)
      refine ⟨?_, e2⟩
      rw [e1, List.take_succ_cons, total_cons]; omega
theorem Row.total_nonneg {l : List Mo} {d : Int} (h : Row l d) : 0 ≤ total l := by
  induction l generalizing d with
  | nil => simp [total]
  | cons a l ih =>
    obtain ⟨h1, h2, h3⟩ := h
    have := ih h3
    rw [total_cons]; omega
theorem Row.drop {l : List Mo} {d : Int} (h : Row l d) (k : Nat) : ∃ d', Row (l.drop k) d' := by
  induction l generalizing d k with
  | nil => simpa using ⟨d, trivial⟩
  | cons a l ih =>
    cases k with
    | zero => exact ⟨d, h⟩
    | succ k => exact ih h.2.2 k
theorem Row.take {l : List Mo} {d : Int} (h : Row l d) (k : Nat) : Row (l.take k) d := by
  induction l generalizing d k with
  | nil => simpa using h
  | cons a l ih =>
    cases k with
    | zero => trivial
    | succ k => exact ⟨h.1, h.2.1, ih h.2.2 k⟩
/-- An earlier month ends ahead of a later one. -/
theorem Row.before {l : List Mo} {d : Int} (h : Row l d) {j k : Nat} {m m' : Mo} (hj : l[j]? = some m) (hk : l[k]? = some m') (hjk : j < k) : m.day + m.len ≤ m'.day := by
  obtain ⟨e1, b1, b2⟩ := h.day hj
  obtain ⟨e2, _, _⟩ := h.day hk
  have hl : j < l.length := by
    rcases Nat.lt_or_ge j l.length with h | h
    · exact h
    · rw [List.getElem?_eq_none h] at hj; cases hj
  have : l.take k = l.take j ++ (m :: (l.take k).drop (j + 1)) := by
    have h1 : (l.take k)[j]? = some m := by rw [List.getElem?_take_of_lt hjk, hj]
    have hl' : j < (l.take k).length := by simp; omega
    have h2 : (l.take k)[j] = m := by
      rw [List.getElem?_eq_getElem hl'] at h1
      exact Option.some.inj h1
    conv => lhs; rw [← List.take_append_drop j (l.take k)]
    rw [List.take_take, Nat.min_eq_left (by omega), List.drop_eq_getElem_cons hl', h2]
  have hr : ∃ d', Row ((l.take k).drop (j + 1)) d' := by
    exact (h.take k).drop _
  obtain ⟨d', hd'⟩ := hr
  have hn := hd'.total_nonneg
  rw [this, total_append, total_cons] at e2
  omega

/-- The keys of months rise. -/
def Lt (a b : Mo) : Prop := a.yr < b.yr ∨ (a.yr = b.yr ∧ (a.num < b.num ∨ (a.num = b.num ∧ a.sec = false ∧ b.sec = true)))
theorem mosY_mem {i : Nat} {y : Yr} {k n : Nat} {d : Int} {m : Mo} (h : m ∈ mosY i y k n d) : m.yr = i ∧ n ≤ m.num ∧ m.num < n + k ∧ (m.sec = true → y.dbl = (m.num : Int)) ∧ m.len = lenF y.long m.num m.sec := by
  induction k generalizing n d with
  | zero => simp [mosY] at h
  | succ k ih =>
    unfold mosY at h
    by_cases hd : y.dbl = n
    · simp only [hd, if_true, List.mem_cons] at h
      rcases h with rfl | rfl | h
      · exact ⟨rfl, by simp, by simp, by simp, rfl⟩
      · exact ⟨rfl, by simp, by simp, by simp [hd], rfl⟩
      · obtain ⟨a, b, c, e⟩ := ih h
        exact ⟨a, by omega, by omega, e⟩
    · simp only [hd, if_false, List.mem_cons] at h
      rcases h with rfl | h
      · exact ⟨rfl, by simp, by simp, by simp, rfl⟩
      · obtain ⟨a, b, c, e⟩ := ih h
        exact ⟨a, by omega, by omega, e⟩
theorem mosY_sorted (i : Nat) (y : Yr) (k n : Nat) (d : Int) : (mosY i y k n d).Pairwise Lt := by
  induction k generalizing n d with
  | zero => simp [mosY]
  | succ k ih =>
    unfold mosY
    by_cases hd : y.dbl = n
    · simp only [hd, if_true]
      refine List.Pairwise.cons ?_ (List.Pairwise.cons ?_ (ih _ _))
      · intro m hm
        simp only [List.mem_cons] at hm
        rcases hm with rfl | hm
        · exact .inr ⟨rfl, .inr ⟨rfl, rfl, rfl⟩⟩
        · obtain ⟨a, b, c, e⟩ := mosY_mem hm
          exact .inr ⟨a.symm, .inl (by simp only; omega)⟩
      · intro m hm
        obtain ⟨a, b, c, e⟩ := mosY_mem hm
        exact .inr ⟨a.symm, .inl (by simp only; omega)⟩
    · simp only [hd, if_false]
      refine List.Pairwise.cons ?_ (ih _ _)
      intro m hm
      obtain ⟨a, b, c, e⟩ := mosY_mem hm
      exact .inr ⟨a.symm, .inl (by simp only; omega)⟩
theorem mosL_mem {l : List Yr} {i : Nat} {d : Int} {m : Mo} (h : m ∈ mosL l i d) : ∃ j y, l[j]? = some y ∧ m.yr = i + j ∧ 1 ≤ m.num ∧ m.num ≤ 12 ∧ (m.sec = true → y.dbl = (m.num : Int)) ∧ m.len = lenF y.long m.num m.sec := by
  induction l generalizing i d with
  | nil => simp [mosL] at h
  | cons y l ih =>
    rw [mosL, List.mem_append] at h
    rcases h with h | h
    · obtain ⟨a, b, c, e, f⟩ := mosY_mem h
      exact ⟨0, y, rfl, by omega, b, by omega, e, f⟩
    · obtain ⟨j, y', h1, h2, h3⟩ := ih h
      exact ⟨j + 1, y', by simpa using h1, by omega, h3⟩
theorem mosL_sorted (l : List Yr) (i : Nat) (d : Int) : (mosL l i d).Pairwise Lt := by
  induction l generalizing i d with
  | nil => simp [mosL]
  | cons y l ih =>
    rw [mosL]
    refine List.pairwise_append.2 ⟨mosY_sorted _ _ _ _ _, ih _ _, fun a ha b hb => ?_⟩
    obtain ⟨a1, _⟩ := mosY_mem ha
    obtain ⟨j, y', h1, h2, h3⟩ := mosL_mem hb
    exact .inl (by omega)
theorem Lt.irrefl {a : Mo} (h : Lt a a) : False := by
  rcases h with h | ⟨_, h | ⟨_, h1, h2⟩⟩
  · omega
  · omega
  · rw [h1] at h2; cases h2
def isMo (m : Mo) (yr : Int) (num : Int) (sec : Bool) : Bool := decide ((m.yr : Int) = yr ∧ (m.num : Int) = num ∧ m.sec = sec)
/-- The first month with a key: how many months there are up to it, and itself. -/
def numF (yr num : Int) (sec : Bool) : List Mo → Nat → Option (Nat × Mo)
  | [], _ => none
  | m :: l, n => if isMo m yr num sec then some (n + 1, m) else numF yr num sec l (n + 1)
theorem numF_append (yr num : Int) (sec : Bool) (a b : List Mo) (n : Nat) : numF yr num sec (a ++ b) n = (numF yr num sec a n).or (numF yr num sec b (n + a.length)) := by
  induction a generalizing n with
  | nil => simp [numF]
  | cons m a ih =>
    simp only [List.cons_append, numF]
    split
    · simp
    · rw [ih]; congr 2; simp; omega
theorem numF_at {l : List Mo} (hs : l.Pairwise Lt) {k : Nat} {m : Mo} (hk : l[k]? = some m) (n : Nat) : numF m.yr m.num m.sec l n = some (n + k + 1, m) := by
  induction l generalizing k n with
  | nil => simp at hk
  | cons a l ih =>
    cases k with
    | zero =>
      simp at hk
      subst hk
      simp [numF, isMo]
    | succ k =>
      have hk' : l[k]? = some m := by simpa using hk
      have hlt := (List.pairwise_cons.1 hs).1 m (List.mem_of_getElem? hk')
      have : isMo a m.yr m.num m.sec = false := by
        refine decide_eq_false ?_
        rintro ⟨h1, h2, h3⟩
        rcases hlt with h | ⟨_, h | ⟨_, h4, h5⟩⟩
        · omega
        · omega
        · rw [h3, h5] at h4; cases h4
      rw [numF, this, ih (List.pairwise_cons.1 hs).2 hk']
      simp; omega
theorem numF_some {yr num : Int} {sec : Bool} {l : List Mo} {n j : Nat} {m : Mo} (h : numF yr num sec l n = some (j, m)) : ∃ k, l[k]? = some m ∧ j = n + k + 1 ∧ (m.yr : Int) = yr ∧ (m.num : Int) = num ∧ m.sec = sec := by
  induction l generalizing n with
  | nil => simp [numF] at h
  | cons a l ih =>
    unfold numF at h
    split at h
    · next hm =>
      obtain ⟨rfl, rfl⟩ : n + 1 = j ∧ a = m := by simpa using h
      exact ⟨0, rfl, rfl, of_decide_eq_true hm⟩
    · obtain ⟨k, h1, h2, h3⟩ := ih h
      exact ⟨k + 1, by simpa using h1, by omega, h3⟩
/-- Is a day in a month? -/
def hasDay (m : Mo) (n : Int) : Bool := decide (m.day ≤ n) && decide (n - m.day < m.len)
def atF (l : List Mo) (n : Int) : Option Mo := l.find? (fun m => hasDay m n)
theorem atF_append (a b : List Mo) (n : Int) : atF (a ++ b) n = (atF a n).or (atF b n) := List.find?_append
theorem atF_some {l : List Mo} {n : Int} {m : Mo} (h : atF l n = some m) : (∃ k : Nat, l[k]? = some m) ∧ m.day ≤ n ∧ n < m.day + m.len := by
  have h1 := List.find?_some h
  have h2 := List.mem_of_find?_eq_some h
  obtain ⟨k, hk⟩ := List.getElem?_of_mem h2
  simp [hasDay] at h1
  exact ⟨⟨k, hk⟩, h1.1, by omega⟩

/-- The program's question whether a date is in a calendar. -/
def inF (ys : List Yr) (Y M : Int) (S : Bool) (D : Int) : Bool :=
  decide (0 ≤ Y ∧ Y < ys.length ∧ 1 ≤ M ∧ M ≤ 12) && (match ys[Y.toNat]? with
    | some y => (!S || decide (y.dbl = M)) && (decide (1 ≤ D) && decide (D ≤ lenF y.long M.toNat S))
    | none => false)
theorem mosY_has (i : Nat) (y : Yr) (k n : Nat) (d : Int) (num : Nat) (sec : Bool) (h1 : n ≤ num) (h2 : num < n + k) (h3 : sec = true → y.dbl = (num : Int)) :
    ∃ m ∈ mosY i y k n d, m.num = num ∧ m.sec = sec := by
  induction k generalizing n d with
  | zero => omega
  | succ k ih =>
    unfold mosY
    by_cases e : n = num
    · subst e
      cases sec with
      | false => exact ⟨_, List.mem_cons_self, rfl, rfl⟩
      | true =>
        rw [if_pos (h3 rfl)]
        exact ⟨_, List.mem_cons_of_mem _ List.mem_cons_self, rfl, rfl⟩
    · by_cases hd : y.dbl = n
      · rw [if_pos hd]
        obtain ⟨m, hm, r⟩ := ih (n + 1) (d + lenF y.long n false + lenF y.long n true) (by omega) (by omega)
        exact ⟨m, List.mem_cons_of_mem _ (List.mem_cons_of_mem _ hm), r⟩
      · rw [if_neg hd]
        obtain ⟨m, hm, r⟩ := ih (n + 1) (d + lenF y.long n false) (by omega) (by omega)
        exact ⟨m, List.mem_cons_of_mem _ hm, r⟩
theorem mosL_has (l : List Yr) (i : Nat) (d : Int) {j : Nat} {y : Yr} (hj : l[j]? = some y) (num : Nat) (sec : Bool) (h1 : 1 ≤ num) (h2 : num ≤ 12) (h3 : sec = true → y.dbl = (num : Int)) :
    ∃ m ∈ mosL l i d, m.yr = i + j ∧ m.num = num ∧ m.sec = sec := by
  induction l generalizing i d j with
  | nil => simp at hj
  | cons a l ih =>
    rw [mosL]
    cases j with
    | zero =>
      obtain rfl : a = y := by simpa using hj
      obtain ⟨m, hm, e1, e2⟩ := mosY_has i a 12 1 d num sec h1 (by omega) h3
      exact ⟨m, List.mem_append_left _ hm, (mosY_mem hm).1, e1, e2⟩
    | succ j =>
      obtain ⟨m, hm, e1, e2⟩ := ih (i + 1) (endY a 12 1 d) (by simpa using hj)
      exact ⟨m, List.mem_append_right _ hm, by omega, e2⟩
/-- A date in a calendar is a day of one of the months. -/
theorem inF_month {ys : List Yr} {Y M D : Int} {S : Bool} (h : inF ys Y M S D = true) :
    ∃ k m, (mos ys)[k]? = some m ∧ (m.yr : Int) = Y ∧ (m.num : Int) = M ∧ m.sec = S ∧ 1 ≤ D ∧ D ≤ m.len ∧ numF Y M S (mos ys) 0 = some (k + 1, m) := by
  unfold inF at h
  rw [Bool.and_eq_true, decide_eq_true_eq] at h
  obtain ⟨⟨h1, h2, h3, h4⟩, h5⟩ := h
  split at h5
  · next y hy =>
    simp only [Bool.and_eq_true, Bool.or_eq_true, Bool.not_eq_true', decide_eq_true_eq] at h5
    obtain ⟨h6, h7, h8⟩ := h5
    obtain ⟨m, hm, e1, e2, e3⟩ := mosL_has ys 0 1 hy M.toNat S (by omega) (by omega) (fun hs => by rcases h6 with h6 | h6 <;> first | (rw [hs] at h6; cases h6) | omega)
    obtain ⟨k, hk⟩ := List.getElem?_of_mem hm
    obtain ⟨j, y', j1, j2, j3, j4, j5, j6⟩ := mosL_mem hm
    have : y' = y := by
      have : j = Y.toNat := by omega
      rw [this, hy] at j1
      exact (Option.some.inj j1).symm
    subst this
    have e1' : (m.yr : Int) = Y := by omega
    have e2' : (m.num : Int) = M := by omega
    refine ⟨k, m, hk, e1', e2', e3, h7, ?_, ?_⟩
    · rw [j6, e2, e3]; exact h8
    · have := numF_at (mosL_sorted ys 0 1) hk 0
      rw [e1', e2', e3] at this
      rw [mos, this]; simp
  · cases h5
/-- A day of a month is a date in the calendar. -/
theorem inF_of {ys : List Yr} {k : Nat} {m : Mo} (hk : (mos ys)[k]? = some m) {D : Int} (h1 : 1 ≤ D) (h2 : D ≤ m.len) : inF ys m.yr m.num m.sec D = true := by
  obtain ⟨j, y, j1, j2, j3, j4, j5, j6⟩ := mosL_mem (List.mem_of_getElem? hk)
  have hj : j < ys.length := by
    rcases Nat.lt_or_ge j ys.length with h | h
    · exact h
    · rw [List.getElem?_eq_none h] at j1; cases j1
  unfold inF
  have e : (m.yr : Int).toNat = j := by omega
  rw [e, j1, Bool.and_eq_true, decide_eq_true_eq]
  refine ⟨⟨by omega, by omega, by omega, by omega⟩, ?_⟩
  simp only [Bool.and_eq_true, Bool.or_eq_true, Bool.not_eq_true', decide_eq_true_eq, Int.toNat_natCast]
  refine ⟨?_, h1, by rw [← j6]; exact h2⟩
  cases hs : m.sec with
  | false => exact .inl rfl
  | true => exact .inr (j5 hs)
/-- The schematic days between days of months have the sign of the days between them. -/
theorem scheme_sign {l : List Mo} {d : Int} (h : Row l d) {j k : Nat} {m m' : Mo} (hj : l[j]? = some m) (hk : l[k]? = some m') {D D' : Int}
    (b1 : 1 ≤ D) (b2 : D ≤ m.len) (b3 : 1 ≤ D') (b4 : D' ≤ m'.len) :
    ((0 < (m'.day + D' - 1) - (m.day + D - 1)) ↔ 0 < 30 * ((k : Int) - j) + D' - D) ∧ (((m'.day + D' - 1) - (m.day + D - 1) < 0) ↔ 30 * ((k : Int) - j) + D' - D < 0) := by
  obtain ⟨_, p1, p2⟩ := h.day hj
  obtain ⟨_, q1, q2⟩ := h.day hk
  rcases Nat.lt_trichotomy j k with e | e | e
  · have := h.before hj hk e
    constructor <;> constructor <;> intro _ <;> omega
  · subst e
    obtain rfl : m = m' := by rw [hj] at hk; exact Option.some.inj hk
    constructor <;> constructor <;> intro _ <;> omega
  · have := h.before hk hj e
    constructor <;> constructor <;> intro _ <;> omega
theorem Row.total_le {l : List Mo} {d : Int} (h : Row l d) : total l ≤ 30 * l.length := by
  induction l generalizing d with
  | nil => simp [total]
  | cons a l ih =>
    obtain ⟨h1, h2, h3⟩ := h
    have := ih h3
    rw [total_cons, List.length_cons]; omega
theorem mosY_len (i : Nat) (y : Yr) (k n : Nat) (d : Int) : (mosY i y k n d).length ≤ 2 * k := by
  induction k generalizing n d with
  | zero => simp [mosY]
  | succ k ih =>
    unfold mosY
    by_cases hd : y.dbl = n
    · rw [if_pos hd]
      have := ih (n + 1) (d + lenF y.long n false + lenF y.long n true)
      simp only [List.length_cons]; omega
    · rw [if_neg hd]
      have := ih (n + 1) (d + lenF y.long n false)
      simp only [List.length_cons]; omega
theorem mosL_len (l : List Yr) (i : Nat) (d : Int) : (mosL l i d).length ≤ 24 * l.length := by
  induction l generalizing i d with
  | nil => simp [mosL]
  | cons y l ih =>
    rw [mosL, List.length_append, List.length_cons]
    have h1 := mosY_len i y 12 1 d
    have h2 := ih (i + 1) (endY y 12 1 d)
    omega
/-- The first days of the months of at most 400 years. -/
theorem mos_day {ys : List Yr} (h : ys.length ≤ 400) {m : Mo} (hm : m ∈ mos ys) : 1 ≤ m.day ∧ m.day ≤ 300000 ∧ 29 ≤ m.len ∧ m.len ≤ 30 := by
  obtain ⟨k, hk⟩ := List.getElem?_of_mem hm
  obtain ⟨v1, v2, v3⟩ := (mos_row ys).day hk
  have v4 := ((mos_row ys).take k).total_nonneg
  have v5 := ((mos_row ys).take k).total_le
  have v6 : ((mos ys).take k).length ≤ (mos ys).length := by simp; omega
  have v7 := mosL_len ys 0 1
  have v8 : (mos ys).length ≤ 24 * ys.length := v7
  omega
end Go.Proofs.YthpjeclhignciaaDoor
