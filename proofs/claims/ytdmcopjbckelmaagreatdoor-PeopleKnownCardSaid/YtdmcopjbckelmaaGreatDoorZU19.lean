/- Plain: the examples of PeopleKnown, reckoned. No condition. -/
import Derived.Test.YtdmcopjbckelmaaGreatDoorZH
import Derived.Test.YtdmcopjbckelmaaGreatDoorZTM
import Derived.Test.YtdmcopjbckelmaaGreatDoorZH3
import Derived.Test.YtdmcopjbckelmaaGreatDoorZJ1
import Derived.Test.YtdmcopjbckelmaaGreatDoorZF2
import Derived.Test.YtdmcopjbckelmaaGreatDoorZB4
import Derived.Test.YtdmcopjbckelmaaGreatDoorZU1
import Derived.Test.YtdmcopjbckelmaaGreatDoorZA5
namespace Go.Proofs.YtdmcopjbckelmaaGreatDoor
open Go Go.RowKit Go.Shelf

def knOlder : Fa := ⟨3, nCur, nAda, 0⟩
theorem kn_must : mustV exP exF knOlder = true := by
  obtain ⟨D, hD⟩ := ex_solved
  obtain ⟨_, _, h1, _⟩ := ex_vals hD
  unfold mustV
  rw [must_some hD, ex_check, show aboutB exP knOlder = true by kernel_rfl]
  unfold mustB
  rw [show boundsF exP knOlder = [⟨4, 0, 0⟩] by kernel_rfl]
  simp [overB]
  omega
theorem kn_mustE : mustE exP exF knOlder = 0 := by
  obtain ⟨D, hD⟩ := ex_solved
  unfold mustE
  rw [contrary_some hD, ex_check, show aboutB exP knOlder = true by kernel_rfl]
  rfl
theorem kn_parA : parentsF exF nAda = [nBel] := by
  unfold parentsF
  rw [setL_setI]
  kernel_rfl
theorem kn_parD : parentsF exF nDan = [] := by
  unfold parentsF
  rw [setL_setI]
  kernel_rfl
theorem kn_anc (s : ByteArray) : ¬ Anc exF nBel s := by
  rintro ⟨p, hp, _⟩
  have : p ∈ parentsF exF nBel := hp
  rw [ex_par0] at this
  cases this
theorem kn_abA : abI exF [nAda] 2 = ([(nAda, 0), (nBel, 1)], []) := by
  show abS exF 1 (abS exF 0 [nAda] [] []).2 (abS exF 0 [nAda] [] []).1 [] = _
  have h1 : abS exF 0 [nAda] [] [] = ([(nAda, 0)], [nBel]) := by
    simp only [abS, hasN, List.any_nil, Bool.false_eq_true, if_false, kn_parA, List.nil_append]
  rw [h1]
  simp only [abS]
  rw [show hasN [(nAda, 0)] nBel = false by kernel_rfl, ex_par0]
  rfl
theorem kn_abD : abI exF [nDan] 1 = ([(nDan, 0)], []) := by
  show abS exF 0 [nDan] [] [] = _
  simp only [abS, hasN, List.any_nil, Bool.false_eq_true, if_false, kn_parD, List.append_nil, List.nil_append]
theorem kn_kin {iA iB : Nat} {fd : Bool} {up dn : Nat} (hA : (abI exF [nAda] iA).2 = []) (hB : (abI exF [nCur] iB).2 = []) (h : BestP (abI exF [nAda] iA).1 (abI exF [nCur] iB).1 fd up dn) : up = 1 ∧ dn = 1 ∧ fd = true := by
  rw [abI_uniq hA (show (abI exF [nAda] 2).2 = [] by rw [kn_abA]), kn_abA, abI_uniq hB (show (abI exF [nCur] 2).2 = [] by rw [ex_abB]), ex_abB] at h
  have hs : stepOf [(nCur, 0), (nBel, 1)] nBel = some 1 := by kernel_rfl
  have hn : stepOf [(nCur, 0), (nBel, 1)] nAda = none := by kernel_rfl
  cases fd with
  | false =>
    have := (h.1 rfl).2.2 (nBel, 1) (by simp)
    simp only at this
    rw [hs] at this
    cases this
  | true =>
    obtain ⟨q, hq, h1, h2⟩ := (h.2 rfl).1
    rcases (show q = (nAda, 0) ∨ q = (nBel, 1) by simpa using hq) with rfl | rfl
    · simp only at h2
      rw [hn] at h2
      cases h2
    · simp only at h1 h2
      rw [hs] at h2
      cases h2
      exact ⟨h1.symm, rfl, rfl⟩
theorem kn_kin2 {iA iB : Nat} {fd : Bool} {up dn : Nat} (hA : (abI exF [nAda] iA).2 = []) (hB : (abI exF [nDan] iB).2 = []) (h : BestP (abI exF [nAda] iA).1 (abI exF [nDan] iB).1 fd up dn) : up = 0 ∧ dn = 0 ∧ fd = false := by
  rw [abI_uniq hA (show (abI exF [nAda] 2).2 = [] by rw [kn_abA]), kn_abA, abI_uniq hB (show (abI exF [nDan] 1).2 = [] by rw [kn_abD]), kn_abD] at h
  have hs : stepOf [(nDan, 0)] nBel = none := by kernel_rfl
  have hn : stepOf [(nDan, 0)] nAda = none := by kernel_rfl
  cases fd with
  | false => exact ⟨(h.1 rfl).1, (h.1 rfl).2.1, rfl⟩
  | true =>
    obtain ⟨q, hq, h1, h2⟩ := (h.2 rfl).1
    rcases (show q = (nAda, 0) ∨ q = (nBel, 1) by simpa using hq) with rfl | rfl
    · simp only at h2
      rw [hn] at h2
      cases h2
    · simp only at h2
      rw [hs] at h2
      cases h2
theorem kn_same1 : sameV exP exF nAda nBel = (false, 0) := by
  unfold sameV
  rw [if_neg (by rw [show namedF exP exF [nAda, nBel] = 0 by kernel_rfl]; exact fun q => q rfl), if_neg (by decide), show mergeF nAda nBel exF = none by kernel_rfl]
def knP : List ByteArray := [nAda, nBel, nCur]
def knB (s : ByteArray) : Int := if s = nBel then -105 else -25
def knE (s : ByteArray) : Int := if s = nBel then -26 else if s = nCur then 75 else 50
theorem kn_aboutP : AllAbout knP exF := by
  intro f hf
  have : exF.all (aboutB knP) = true := by kernel_rfl
  exact List.all_eq_true.1 this f hf
theorem kn_solveP : (solveF knP exF).isSome = true := by
  refine (isSome_nsol (by decide) kn_aboutP).2 ⟨knB, knE, ?_, ?_⟩
  · intro s hs
    rcases (show s = nAda ∨ s = nBel ∨ s = nCur by simpa [knP] using hs) with rfl | rfl | rfl <;> (unfold knB knE; decide)
  · intro f hf
    rcases (show f = ⟨1, nAda, nBel, 0⟩ ∨ f = ⟨1, nCur, nBel, 0⟩ ∨ f = ⟨5, nAda, ⟨#[]⟩, 50⟩ ∨ f = ⟨7, nBel, ⟨#[]⟩, 60⟩ ∨ f = ⟨5, nCur, ⟨#[]⟩, 75⟩ ∨ f = ⟨3, nCur, nAda, 0⟩ by simpa [exF] using hf) with rfl | rfl | rfl | rfl | rfl | rfl <;> (unfold condN knB knE; decide)
theorem kn_same2 : sameV exP exF nAda nDan = (true, 0) := by
  unfold sameV
  rw [if_neg (by rw [show namedF exP exF [nAda, nDan] = 0 by kernel_rfl]; exact fun q => q rfl), if_neg (by decide), show mergeF nAda nDan exF = some exF by kernel_rfl]
  simp only
  rw [show mergeP nDan exP = knP by kernel_rfl, show checkF knP exF = 0 by kernel_rfl]
  unfold consF
  rw [show checkF knP exF = 0 by kernel_rfl, kn_solveP]
  rfl
theorem kn_termA : termF 1 2 = ⟨#[117, 110, 99, 108, 101]⟩ := by kernel_rfl
theorem kn_termB : termF 0 5 = ⟨#[97, 110, 99, 101, 115, 116, 111, 114]⟩ := by kernel_rfl
theorem kn_termC : termF 3 1 = ⟨#[107, 105, 110]⟩ := by kernel_rfl
theorem kn_termD : termF (-1) 0 = ⟨#[]⟩ := by kernel_rfl
def knL : List Fa := [⟨5, nAda, ⟨#[]⟩, 10⟩, ⟨5, nBel, ⟨#[]⟩, 10⟩, ⟨5, nCur, ⟨#[]⟩, 10⟩, ⟨5, nCur, ⟨#[]⟩, 20⟩, ⟨5, nDan, ⟨#[]⟩, 20⟩, ⟨5, nEli, ⟨#[]⟩, 110⟩]
theorem kn_facts : factsD exD = knL := by
  unfold factsD
  rw [exD_all]
  kernel_rfl
theorem kn_from : fromD exD = ([nAda, nBel, nCur, nDan, nEli], knL, 0) := by
  unfold fromD
  rw [exD_check, if_neg (fun q => q rfl), exD_all, kn_facts, if_neg (by decide)]
theorem kn_tog1 : togV exD nBel nCur = 1 := by kernel_rfl
theorem kn_tog2 : togV exD nCur nCur = 2 := by kernel_rfl
theorem kn_seals : sealsF exD = [⟨#[108, 105, 111, 110]⟩] := by kernel_rfl
theorem kn_cir (s : ByteArray) : cirF exD s = setI ((dsI (knownI exD) s 5).1.map (·.1)) := by
  unfold cirF
  rw [exD_all, knownF_I]
  rfl
theorem kn_first : firstB exD = fun s => decide ((setI ((dsI (knownI exD) s 5).1.map (·.1))).head? = some s) := by
  funext s
  unfold firstB
  rw [kn_cir]
theorem kn_circles : (circlesF exD).length = 2 := by
  unfold circlesF
  rw [List.length_map, exD_all, kn_first]
  kernel_rfl
theorem kn_chain : chE exD nAda nEli = 4 ∧ chL exD nAda nEli = [] := by
  refine chE_none exD_check ?_
  unfold chainF chainV
  rw [knownF_I, exD_all, show stepOf (dsI (knownI exD) nEli [nAda, nBel, nCur, nDan, nEli].length).1 nAda = none by kernel_rfl]
def knA (y : Int) : List Fa := [⟨5, nAda, ⟨#[]⟩, 0⟩, ⟨5, nAda, ⟨#[]⟩, y⟩]
theorem kn_about {y : Int} (h : (knA y).all (aboutB [nAda]) = true) : AllAbout [nAda] (knA y) := fun f hf => List.all_eq_true.1 h f hf
theorem kn_kind (y : Int) : ∀ f ∈ knA y, f.kind = 5 := by
  intro f hf
  rcases (show f = ⟨5, nAda, ⟨#[]⟩, 0⟩ ∨ f = ⟨5, nAda, ⟨#[]⟩, y⟩ by simpa [knA] using hf) with rfl | rfl <;> rfl
theorem kn_lives : livE [nAda] (knA 91) = 101 := by
  unfold livE
  rw [show checkF [nAda] (knA 91) = 0 by kernel_rfl, if_neg (fun q => q rfl)]
  refine if_neg fun h => ?_
  have := (acts_solve (by decide) (kn_about (y := 91) (by kernel_rfl)) (kn_kind _)).1 h ⟨5, nAda, ⟨#[]⟩, 91⟩ (by simp [knA]) ⟨5, nAda, ⟨#[]⟩, 0⟩ (by simp [knA]) rfl
  simp only at this
  omega
theorem kn_check90 : checkF [nAda] (knA 90) = 0 := by kernel_rfl
theorem kn_cons : consF [nAda] (knA 90) = true := by
  unfold consF
  rw [kn_check90]
  simp only [decide_true, Bool.true_and]
  refine (acts_solve (by decide) (kn_about (y := 90) (by kernel_rfl)) (kn_kind _)).2 fun f hf g hg _ => ?_
  rcases (show f = ⟨5, nAda, ⟨#[]⟩, 0⟩ ∨ f = ⟨5, nAda, ⟨#[]⟩, 90⟩ by simpa [knA] using hf) with rfl | rfl <;> rcases (show g = ⟨5, nAda, ⟨#[]⟩, 0⟩ ∨ g = ⟨5, nAda, ⟨#[]⟩, 90⟩ by simpa [knA] using hg) with rfl | rfl <;> decide
theorem kn_contr5 : contrV exP exF 5 = ([], 8) := by
  unfold contrV
  rw [ex_check, if_neg (fun q => q rfl), if_pos (by decide)]
theorem kn_sel {l : List Nat} (h : ∀ j ∈ l, j < 6) : selF exF l = selF exG l := by
  unfold selF
  refine List.map_congr_left fun j hj => ?_
  have hj := h j hj
  rcases (show j = 0 ∨ j = 1 ∨ j = 2 ∨ j = 3 ∨ j = 4 ∨ j = 5 by omega) with rfl | rfl | rfl | rfl | rfl | rfl <;> rfl
theorem kn_contr4 : contrV exP exF 4 = ([], 4) := by
  unfold contrV
  rw [ex_check, if_neg (fun q => q rfl), if_neg (by decide)]
  cases h : contrF exP exF (4 : Int).toNat with
  | none => rfl
  | some x =>
    obtain ⟨h1, _, _, h4, _⟩ := contr_some h
    have hx : ∀ j ∈ x, j < 6 := h1.2
    have := ex_w1 hx
    unfold badL at this h4
    rw [kn_sel hx, this] at h4
    cases h4
theorem kn_wo : woV exP exF [1, 1] = ([], [], 8) := by
  unfold woV
  rw [ex_check, if_neg (fun q => q rfl), show okI exF [1, 1] = false by kernel_rfl]
  rfl
theorem kn_merge : mergeV exP exF nAda nAda = ([], [], 2) := by
  unfold mergeV
  rw [show namedF exP exF [nAda, nAda] = 0 by kernel_rfl, if_neg (fun q => q rfl), if_pos rfl]
def knBa : List ByteArray := [⟨#[98]⟩, ⟨#[97]⟩]
theorem kn_check1 : checkF knBa [] = 100 := by kernel_rfl
def knE25 : List ByteArray := List.replicate 25 ⟨#[]⟩
theorem kn_check2 : checkF knE25 [] = 3 := by kernel_rfl
end Go.Proofs.YtdmcopjbckelmaaGreatDoor
