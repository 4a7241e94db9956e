/-
  NARROWER THAN 'FOR EVERY INPUT', by the rows' own cells (each row's printed sentence says how): MetroRatioMakes: laid · MetroLadderReads: laid · MetroConvertBack: laid · MetroBookConverts: laid · MetroRatioOrder: laid · MetroRoundNear: laid · MetroBridgeOrder: laid · MetroLadderSplits: laid · MetroConvertAgree: laid · MetroRatioProducts: laid · MetroRatioProductOrder: laid · MetroLadderBack: laid · MetroRatioField: laid · MetroBookMakes: laid · MetroLadderTotals: laid · MetroCarryKeeps: laid · MetroRatioSums: laid · MetroKnown: laid.
  DERIVED. THE GIVEN ROWS OF THIS SEAT. 18 by the template 'for every input the law returns true; each argument reads behind the call as it read before'; 0 by the template 'total and deterministic' (their statements: YtmibpncmebhbjaaDoorTotals.lean).
  GIVEN WITH THE SEED: the statements are not yours to turn. If you find one false, say at which input.
  Laid BY PROGRAM, IN A SANDBOX (cutbox-rows.mjs): the forced cells as the released guide's own fill.sh prints them over the translation 67d480770093e68b… (all of the seat's roots in one cut). By AI agents, Wed Nov 11 2026. No macro, syntax, notation, axiom, sorry.
-/
import Derived.Test.YtmibpncmebhbjaaDoorChecked
import GoSem.Claim
import GoSem.ClaimJoined
import GoSem.ClaimMapViews
import Derived.JoinedTies
import Derived.KernelRfl
namespace Go.Proofs.YtmibpncmebhbjaaDoor
/- THE CELL 'sum', in the pinned program and in every row, IS THE sha256 OF THE DUMP (.gsa) THAT YtmibpncmebhbjaaDoorProg.lean LOADS. Nothing in Lean hashes anything: it is a label: what it is worth is what the hold of that sum in a sandbox is worth. -/
noncomputable def Tryd.pinned : Pinned := { name := "ytmibpncmebhbjaadoor", sum := "67d480770093e68bf14f94c13a7d5806a3c31e9bc34af1aed1e679412696a926", checked := Tryd.checked }
namespace Rows
def none {H : Type} : Left H := { results := [], args := [] }

/- WHAT THE LISTED PACKAGE-LEVEL VARIABLES READ AS WHEN THE CALL BEGINS. Each datum BY PROGRAM (the guide's laid-datum.mjs) off the statement by which the dump's own 'gosem.cut.vars' lays the variable. In a bare row this is a premise. The card (YtmibpncmebhbjaaDoorCards.lean) ties it to the program's text. -/
def laid_bulla_metro_zero {H : Type} : DataW H := .agg [.lit (.int .i64 0), .lit (.int .i64 1)]

/-- 'bullalaw01.MetroRatioMakes': WHATEVER THE INPUT: true; the input reads as it did. -/
def metroRatioMakesSpec : ChangeSpec := { name := "metroRatioMakes", fn := fun _ => fun
  | [d1, d2, d3] => { results := [.lit (.bool true)], args := [d1, d2, d3] }
  | _ => none }
def metroRatioMakesRow : OpenClaim := { program := "ytmibpncmebhbjaadoor", sum := "67d480770093e68bf14f94c13a7d5806a3c31e9bc34af1aed1e679412696a926", func := "bulla/bullalaw01.MetroRatioMakes", spec := "metroRatioMakes", unfollowed := true, recurses := true, named := ["bulla/metro.zero"], apart := false, laid := [("bulla/metro.zero", laid_bulla_metro_zero)] }
def MetroRatioMakesSaid : Prop := metroRatioMakesRow.holds Tryd.pinned (OpenSpec.ofChange metroRatioMakesSpec)

/-- ITS FALSE NEIGHBOUR: 'it returns false'. Refute it at one input. -/
def metroRatioMakesWrong : ChangeSpec := { name := "metroRatioMakes", fn := fun _ => fun
  | [d1, d2, d3] => { results := [.lit (.bool false)], args := [d1, d2, d3] }
  | _ => none }
def MetroRatioMakesWrongFalsely : Prop := metroRatioMakesRow.holds Tryd.pinned (OpenSpec.ofChange metroRatioMakesWrong)

/-- 'bullalaw01.MetroLadderReads': WHATEVER THE INPUT: true; the input reads as it did. -/
def metroLadderReadsSpec : ChangeSpec := { name := "metroLadderReads", fn := fun _ => fun
  | [d1, d2] => { results := [.lit (.bool true)], args := [d1, d2] }
  | _ => none }
def metroLadderReadsRow : OpenClaim := { program := "ytmibpncmebhbjaadoor", sum := "67d480770093e68bf14f94c13a7d5806a3c31e9bc34af1aed1e679412696a926", func := "bulla/bullalaw01.MetroLadderReads", spec := "metroLadderReads", unfollowed := true, recurses := true, named := ["bulla/metro.zero"], apart := false, laid := [("bulla/metro.zero", laid_bulla_metro_zero)] }
def MetroLadderReadsSaid : Prop := metroLadderReadsRow.holds Tryd.pinned (OpenSpec.ofChange metroLadderReadsSpec)

/-- ITS FALSE NEIGHBOUR: 'it returns false'. Refute it at one input. -/
def metroLadderReadsWrong : ChangeSpec := { name := "metroLadderReads", fn := fun _ => fun
  | [d1, d2] => { results := [.lit (.bool false)], args := [d1, d2] }
  | _ => none }
def MetroLadderReadsWrongFalsely : Prop := metroLadderReadsRow.holds Tryd.pinned (OpenSpec.ofChange metroLadderReadsWrong)

/-- 'bullalaw01.MetroConvertBack': WHATEVER THE INPUT: true; the input reads as it did. -/
def metroConvertBackSpec : ChangeSpec := { name := "metroConvertBack", fn := fun _ => fun
  | [d1, d2, d3] => { results := [.lit (.bool true)], args := [d1, d2, d3] }
  | _ => none }
def metroConvertBackRow : OpenClaim := { program := "ytmibpncmebhbjaadoor", sum := "67d480770093e68bf14f94c13a7d5806a3c31e9bc34af1aed1e679412696a926", func := "bulla/bullalaw01.MetroConvertBack", spec := "metroConvertBack", unfollowed := true, recurses := true, named := ["bulla/metro.zero"], apart := false, laid := [("bulla/metro.zero", laid_bulla_metro_zero)] }
def MetroConvertBackSaid : Prop := metroConvertBackRow.holds Tryd.pinned (OpenSpec.ofChange metroConvertBackSpec)

/-- ITS FALSE NEIGHBOUR: 'it returns false'. Refute it at one input. -/
def metroConvertBackWrong : ChangeSpec := { name := "metroConvertBack", fn := fun _ => fun
  | [d1, d2, d3] => { results := [.lit (.bool false)], args := [d1, d2, d3] }
  | _ => none }
def MetroConvertBackWrongFalsely : Prop := metroConvertBackRow.holds Tryd.pinned (OpenSpec.ofChange metroConvertBackWrong)

/-- 'bullalaw01.MetroBookConverts': WHATEVER THE INPUT: true; the input reads as it did. -/
def metroBookConvertsSpec : ChangeSpec := { name := "metroBookConverts", fn := fun _ => fun
  | [d] => { results := [.lit (.bool true)], args := [d] }
  | _ => none }
def metroBookConvertsRow : OpenClaim := { program := "ytmibpncmebhbjaadoor", sum := "67d480770093e68bf14f94c13a7d5806a3c31e9bc34af1aed1e679412696a926", func := "bulla/bullalaw01.MetroBookConverts", spec := "metroBookConverts", unfollowed := true, recurses := true, named := ["bulla/metro.zero"], apart := false, laid := [("bulla/metro.zero", laid_bulla_metro_zero)] }
def MetroBookConvertsSaid : Prop := metroBookConvertsRow.holds Tryd.pinned (OpenSpec.ofChange metroBookConvertsSpec)

/-- ITS FALSE NEIGHBOUR: 'it returns false'. Refute it at one input. -/
def metroBookConvertsWrong : ChangeSpec := { name := "metroBookConverts", fn := fun _ => fun
  | [d] => { results := [.lit (.bool false)], args := [d] }
  | _ => none }
def MetroBookConvertsWrongFalsely : Prop := metroBookConvertsRow.holds Tryd.pinned (OpenSpec.ofChange metroBookConvertsWrong)

/-- 'bullalaw01.MetroRatioOrder': WHATEVER THE INPUT: true; the input reads as it did. -/
def metroRatioOrderSpec : ChangeSpec := { name := "metroRatioOrder", fn := fun _ => fun
  | [d1, d2, d3] => { results := [.lit (.bool true)], args := [d1, d2, d3] }
  | _ => none }
def metroRatioOrderRow : OpenClaim := { program := "ytmibpncmebhbjaadoor", sum := "67d480770093e68bf14f94c13a7d5806a3c31e9bc34af1aed1e679412696a926", func := "bulla/bullalaw01.MetroRatioOrder", spec := "metroRatioOrder", unfollowed := true, recurses := true, named := ["bulla/metro.zero"], apart := false, laid := [("bulla/metro.zero", laid_bulla_metro_zero)] }
def MetroRatioOrderSaid : Prop := metroRatioOrderRow.holds Tryd.pinned (OpenSpec.ofChange metroRatioOrderSpec)

/-- ITS FALSE NEIGHBOUR: 'it returns false'. Refute it at one input. -/
def metroRatioOrderWrong : ChangeSpec := { name := "metroRatioOrder", fn := fun _ => fun
  | [d1, d2, d3] => { results := [.lit (.bool false)], args := [d1, d2, d3] }
  | _ => none }
def MetroRatioOrderWrongFalsely : Prop := metroRatioOrderRow.holds Tryd.pinned (OpenSpec.ofChange metroRatioOrderWrong)

/-- 'bullalaw01.MetroRoundNear': WHATEVER THE INPUT: true; the input reads as it did. -/
def metroRoundNearSpec : ChangeSpec := { name := "metroRoundNear", fn := fun _ => fun
  | [d1, d2, d3] => { results := [.lit (.bool true)], args := [d1, d2, d3] }
  | _ => none }
def metroRoundNearRow : OpenClaim := { program := "ytmibpncmebhbjaadoor", sum := "67d480770093e68bf14f94c13a7d5806a3c31e9bc34af1aed1e679412696a926", func := "bulla/bullalaw01.MetroRoundNear", spec := "metroRoundNear", unfollowed := true, recurses := true, named := ["bulla/metro.zero"], apart := false, laid := [("bulla/metro.zero", laid_bulla_metro_zero)] }
def MetroRoundNearSaid : Prop := metroRoundNearRow.holds Tryd.pinned (OpenSpec.ofChange metroRoundNearSpec)

/-- ITS FALSE NEIGHBOUR: 'it returns false'. Refute it at one input. -/
def metroRoundNearWrong : ChangeSpec := { name := "metroRoundNear", fn := fun _ => fun
  | [d1, d2, d3] => { results := [.lit (.bool false)], args := [d1, d2, d3] }
  | _ => none }
def MetroRoundNearWrongFalsely : Prop := metroRoundNearRow.holds Tryd.pinned (OpenSpec.ofChange metroRoundNearWrong)

/-- 'bullalaw01.MetroBridgeOrder': WHATEVER THE INPUT: true; the input reads as it did. -/
def metroBridgeOrderSpec : ChangeSpec := { name := "metroBridgeOrder", fn := fun _ => fun
  | [d1, d2, d3] => { results := [.lit (.bool true)], args := [d1, d2, d3] }
  | _ => none }
def metroBridgeOrderRow : OpenClaim := { program := "ytmibpncmebhbjaadoor", sum := "67d480770093e68bf14f94c13a7d5806a3c31e9bc34af1aed1e679412696a926", func := "bulla/bullalaw01.MetroBridgeOrder", spec := "metroBridgeOrder", unfollowed := true, recurses := true, named := ["bulla/metro.zero"], apart := false, laid := [("bulla/metro.zero", laid_bulla_metro_zero)] }
def MetroBridgeOrderSaid : Prop := metroBridgeOrderRow.holds Tryd.pinned (OpenSpec.ofChange metroBridgeOrderSpec)

/-- ITS FALSE NEIGHBOUR: 'it returns false'. Refute it at one input. -/
def metroBridgeOrderWrong : ChangeSpec := { name := "metroBridgeOrder", fn := fun _ => fun
  | [d1, d2, d3] => { results := [.lit (.bool false)], args := [d1, d2, d3] }
  | _ => none }
def MetroBridgeOrderWrongFalsely : Prop := metroBridgeOrderRow.holds Tryd.pinned (OpenSpec.ofChange metroBridgeOrderWrong)

/-- 'bullalaw01.MetroLadderSplits': WHATEVER THE INPUT: true; the input reads as it did. -/
def metroLadderSplitsSpec : ChangeSpec := { name := "metroLadderSplits", fn := fun _ => fun
  | [d1, d2, d3] => { results := [.lit (.bool true)], args := [d1, d2, d3] }
  | _ => none }
def metroLadderSplitsRow : OpenClaim := { program := "ytmibpncmebhbjaadoor", sum := "67d480770093e68bf14f94c13a7d5806a3c31e9bc34af1aed1e679412696a926", func := "bulla/bullalaw01.MetroLadderSplits", spec := "metroLadderSplits", unfollowed := true, recurses := true, named := ["bulla/metro.zero"], apart := false, laid := [("bulla/metro.zero", laid_bulla_metro_zero)] }
def MetroLadderSplitsSaid : Prop := metroLadderSplitsRow.holds Tryd.pinned (OpenSpec.ofChange metroLadderSplitsSpec)

/-- ITS FALSE NEIGHBOUR: 'it returns false'. Refute it at one input. -/
def metroLadderSplitsWrong : ChangeSpec := { name := "metroLadderSplits", fn := fun _ => fun
  | [d1, d2, d3] => { results := [.lit (.bool false)], args := [d1, d2, d3] }
  | _ => none }
def MetroLadderSplitsWrongFalsely : Prop := metroLadderSplitsRow.holds Tryd.pinned (OpenSpec.ofChange metroLadderSplitsWrong)

/-- 'bullalaw01.MetroConvertAgree': WHATEVER THE INPUT: true; the input reads as it did. -/
def metroConvertAgreeSpec : ChangeSpec := { name := "metroConvertAgree", fn := fun _ => fun
  | [d1, d2] => { results := [.lit (.bool true)], args := [d1, d2] }
  | _ => none }
def metroConvertAgreeRow : OpenClaim := { program := "ytmibpncmebhbjaadoor", sum := "67d480770093e68bf14f94c13a7d5806a3c31e9bc34af1aed1e679412696a926", func := "bulla/bullalaw01.MetroConvertAgree", spec := "metroConvertAgree", unfollowed := true, recurses := true, named := ["bulla/metro.zero"], apart := false, laid := [("bulla/metro.zero", laid_bulla_metro_zero)] }
def MetroConvertAgreeSaid : Prop := metroConvertAgreeRow.holds Tryd.pinned (OpenSpec.ofChange metroConvertAgreeSpec)

/-- ITS FALSE NEIGHBOUR: 'it returns false'. Refute it at one input. -/
def metroConvertAgreeWrong : ChangeSpec := { name := "metroConvertAgree", fn := fun _ => fun
  | [d1, d2] => { results := [.lit (.bool false)], args := [d1, d2] }
  | _ => none }
def MetroConvertAgreeWrongFalsely : Prop := metroConvertAgreeRow.holds Tryd.pinned (OpenSpec.ofChange metroConvertAgreeWrong)

/-- 'bullalaw01.MetroRatioProducts': WHATEVER THE INPUT: true; the input reads as it did. -/
def metroRatioProductsSpec : ChangeSpec := { name := "metroRatioProducts", fn := fun _ => fun
  | [d1, d2] => { results := [.lit (.bool true)], args := [d1, d2] }
  | _ => none }
def metroRatioProductsRow : OpenClaim := { program := "ytmibpncmebhbjaadoor", sum := "67d480770093e68bf14f94c13a7d5806a3c31e9bc34af1aed1e679412696a926", func := "bulla/bullalaw01.MetroRatioProducts", spec := "metroRatioProducts", unfollowed := true, recurses := true, named := ["bulla/metro.zero"], apart := false, laid := [("bulla/metro.zero", laid_bulla_metro_zero)] }
def MetroRatioProductsSaid : Prop := metroRatioProductsRow.holds Tryd.pinned (OpenSpec.ofChange metroRatioProductsSpec)

/-- ITS FALSE NEIGHBOUR: 'it returns false'. Refute it at one input. -/
def metroRatioProductsWrong : ChangeSpec := { name := "metroRatioProducts", fn := fun _ => fun
  | [d1, d2] => { results := [.lit (.bool false)], args := [d1, d2] }
  | _ => none }
def MetroRatioProductsWrongFalsely : Prop := metroRatioProductsRow.holds Tryd.pinned (OpenSpec.ofChange metroRatioProductsWrong)

/-- 'bullalaw01.MetroRatioProductOrder': WHATEVER THE INPUT: true; the input reads as it did. -/
def metroRatioProductOrderSpec : ChangeSpec := { name := "metroRatioProductOrder", fn := fun _ => fun
  | [d1, d2] => { results := [.lit (.bool true)], args := [d1, d2] }
  | _ => none }
def metroRatioProductOrderRow : OpenClaim := { program := "ytmibpncmebhbjaadoor", sum := "67d480770093e68bf14f94c13a7d5806a3c31e9bc34af1aed1e679412696a926", func := "bulla/bullalaw01.MetroRatioProductOrder", spec := "metroRatioProductOrder", unfollowed := true, recurses := true, named := ["bulla/metro.zero"], apart := false, laid := [("bulla/metro.zero", laid_bulla_metro_zero)] }
def MetroRatioProductOrderSaid : Prop := metroRatioProductOrderRow.holds Tryd.pinned (OpenSpec.ofChange metroRatioProductOrderSpec)

/-- ITS FALSE NEIGHBOUR: 'it returns false'. Refute it at one input. -/
def metroRatioProductOrderWrong : ChangeSpec := { name := "metroRatioProductOrder", fn := fun _ => fun
  | [d1, d2] => { results := [.lit (.bool false)], args := [d1, d2] }
  | _ => none }
def MetroRatioProductOrderWrongFalsely : Prop := metroRatioProductOrderRow.holds Tryd.pinned (OpenSpec.ofChange metroRatioProductOrderWrong)

/-- 'bullalaw01.MetroLadderBack': WHATEVER THE INPUT: true; the input reads as it did. -/
def metroLadderBackSpec : ChangeSpec := { name := "metroLadderBack", fn := fun _ => fun
  | [d1, d2] => { results := [.lit (.bool true)], args := [d1, d2] }
  | _ => none }
def metroLadderBackRow : OpenClaim := { program := "ytmibpncmebhbjaadoor", sum := "67d480770093e68bf14f94c13a7d5806a3c31e9bc34af1aed1e679412696a926", func := "bulla/bullalaw01.MetroLadderBack", spec := "metroLadderBack", unfollowed := true, recurses := true, named := ["bulla/metro.zero"], apart := false, laid := [("bulla/metro.zero", laid_bulla_metro_zero)] }
def MetroLadderBackSaid : Prop := metroLadderBackRow.holds Tryd.pinned (OpenSpec.ofChange metroLadderBackSpec)

/-- ITS FALSE NEIGHBOUR: 'it returns false'. Refute it at one input. -/
def metroLadderBackWrong : ChangeSpec := { name := "metroLadderBack", fn := fun _ => fun
  | [d1, d2] => { results := [.lit (.bool false)], args := [d1, d2] }
  | _ => none }
def MetroLadderBackWrongFalsely : Prop := metroLadderBackRow.holds Tryd.pinned (OpenSpec.ofChange metroLadderBackWrong)

/-- 'bullalaw01.MetroRatioField': WHATEVER THE INPUT: true; the input reads as it did. -/
def metroRatioFieldSpec : ChangeSpec := { name := "metroRatioField", fn := fun _ => fun
  | [d1, d2, d3] => { results := [.lit (.bool true)], args := [d1, d2, d3] }
  | _ => none }
def metroRatioFieldRow : OpenClaim := { program := "ytmibpncmebhbjaadoor", sum := "67d480770093e68bf14f94c13a7d5806a3c31e9bc34af1aed1e679412696a926", func := "bulla/bullalaw01.MetroRatioField", spec := "metroRatioField", unfollowed := true, recurses := true, named := ["bulla/metro.zero"], apart := false, laid := [("bulla/metro.zero", laid_bulla_metro_zero)] }
def MetroRatioFieldSaid : Prop := metroRatioFieldRow.holds Tryd.pinned (OpenSpec.ofChange metroRatioFieldSpec)

/-- ITS FALSE NEIGHBOUR: 'it returns false'. Refute it at one input. -/
def metroRatioFieldWrong : ChangeSpec := { name := "metroRatioField", fn := fun _ => fun
  | [d1, d2, d3] => { results := [.lit (.bool false)], args := [d1, d2, d3] }
  | _ => none }
def MetroRatioFieldWrongFalsely : Prop := metroRatioFieldRow.holds Tryd.pinned (OpenSpec.ofChange metroRatioFieldWrong)

/-- 'bullalaw01.MetroBookMakes': WHATEVER THE INPUT: true; the input reads as it did. -/
def metroBookMakesSpec : ChangeSpec := { name := "metroBookMakes", fn := fun _ => fun
  | [d] => { results := [.lit (.bool true)], args := [d] }
  | _ => none }
def metroBookMakesRow : OpenClaim := { program := "ytmibpncmebhbjaadoor", sum := "67d480770093e68bf14f94c13a7d5806a3c31e9bc34af1aed1e679412696a926", func := "bulla/bullalaw01.MetroBookMakes", spec := "metroBookMakes", unfollowed := true, recurses := true, named := ["bulla/metro.zero"], apart := false, laid := [("bulla/metro.zero", laid_bulla_metro_zero)] }
def MetroBookMakesSaid : Prop := metroBookMakesRow.holds Tryd.pinned (OpenSpec.ofChange metroBookMakesSpec)

/-- ITS FALSE NEIGHBOUR: 'it returns false'. Refute it at one input. -/
def metroBookMakesWrong : ChangeSpec := { name := "metroBookMakes", fn := fun _ => fun
  | [d] => { results := [.lit (.bool false)], args := [d] }
  | _ => none }
def MetroBookMakesWrongFalsely : Prop := metroBookMakesRow.holds Tryd.pinned (OpenSpec.ofChange metroBookMakesWrong)

/-- 'bullalaw01.MetroLadderTotals': WHATEVER THE INPUT: true; the input reads as it did. -/
def metroLadderTotalsSpec : ChangeSpec := { name := "metroLadderTotals", fn := fun _ => fun
  | [d1, d2] => { results := [.lit (.bool true)], args := [d1, d2] }
  | _ => none }
def metroLadderTotalsRow : OpenClaim := { program := "ytmibpncmebhbjaadoor", sum := "67d480770093e68bf14f94c13a7d5806a3c31e9bc34af1aed1e679412696a926", func := "bulla/bullalaw01.MetroLadderTotals", spec := "metroLadderTotals", unfollowed := true, recurses := true, named := ["bulla/metro.zero"], apart := false, laid := [("bulla/metro.zero", laid_bulla_metro_zero)] }
def MetroLadderTotalsSaid : Prop := metroLadderTotalsRow.holds Tryd.pinned (OpenSpec.ofChange metroLadderTotalsSpec)

/-- ITS FALSE NEIGHBOUR: 'it returns false'. Refute it at one input. -/
def metroLadderTotalsWrong : ChangeSpec := { name := "metroLadderTotals", fn := fun _ => fun
  | [d1, d2] => { results := [.lit (.bool false)], args := [d1, d2] }
  | _ => none }
def MetroLadderTotalsWrongFalsely : Prop := metroLadderTotalsRow.holds Tryd.pinned (OpenSpec.ofChange metroLadderTotalsWrong)

/-- 'bullalaw01.MetroCarryKeeps': WHATEVER THE INPUT: true; the input reads as it did. -/
def metroCarryKeepsSpec : ChangeSpec := { name := "metroCarryKeeps", fn := fun _ => fun
  | [d1, d2] => { results := [.lit (.bool true)], args := [d1, d2] }
  | _ => none }
def metroCarryKeepsRow : OpenClaim := { program := "ytmibpncmebhbjaadoor", sum := "67d480770093e68bf14f94c13a7d5806a3c31e9bc34af1aed1e679412696a926", func := "bulla/bullalaw01.MetroCarryKeeps", spec := "metroCarryKeeps", unfollowed := true, recurses := true, named := ["bulla/metro.zero"], apart := false, laid := [("bulla/metro.zero", laid_bulla_metro_zero)] }
def MetroCarryKeepsSaid : Prop := metroCarryKeepsRow.holds Tryd.pinned (OpenSpec.ofChange metroCarryKeepsSpec)

/-- ITS FALSE NEIGHBOUR: 'it returns false'. Refute it at one input. -/
def metroCarryKeepsWrong : ChangeSpec := { name := "metroCarryKeeps", fn := fun _ => fun
  | [d1, d2] => { results := [.lit (.bool false)], args := [d1, d2] }
  | _ => none }
def MetroCarryKeepsWrongFalsely : Prop := metroCarryKeepsRow.holds Tryd.pinned (OpenSpec.ofChange metroCarryKeepsWrong)

/-- 'bullalaw01.MetroRatioSums': WHATEVER THE INPUT: true; the input reads as it did. -/
def metroRatioSumsSpec : ChangeSpec := { name := "metroRatioSums", fn := fun _ => fun
  | [d1, d2] => { results := [.lit (.bool true)], args := [d1, d2] }
  | _ => none }
def metroRatioSumsRow : OpenClaim := { program := "ytmibpncmebhbjaadoor", sum := "67d480770093e68bf14f94c13a7d5806a3c31e9bc34af1aed1e679412696a926", func := "bulla/bullalaw01.MetroRatioSums", spec := "metroRatioSums", unfollowed := true, recurses := true, named := ["bulla/metro.zero"], apart := false, laid := [("bulla/metro.zero", laid_bulla_metro_zero)] }
def MetroRatioSumsSaid : Prop := metroRatioSumsRow.holds Tryd.pinned (OpenSpec.ofChange metroRatioSumsSpec)

/-- ITS FALSE NEIGHBOUR: 'it returns false'. Refute it at one input. -/
def metroRatioSumsWrong : ChangeSpec := { name := "metroRatioSums", fn := fun _ => fun
  | [d1, d2] => { results := [.lit (.bool false)], args := [d1, d2] }
  | _ => none }
def MetroRatioSumsWrongFalsely : Prop := metroRatioSumsRow.holds Tryd.pinned (OpenSpec.ofChange metroRatioSumsWrong)

/-- 'bullalaw01.MetroKnown': WHATEVER THE INPUT: true; the input reads as it did. -/
def metroKnownSpec : ChangeSpec := { name := "metroKnown", fn := fun _ => fun
  | [] => { results := [.lit (.bool true)], args := [] }
  | _ => none }
def metroKnownRow : OpenClaim := { program := "ytmibpncmebhbjaadoor", sum := "67d480770093e68bf14f94c13a7d5806a3c31e9bc34af1aed1e679412696a926", func := "bulla/bullalaw01.MetroKnown", spec := "metroKnown", unfollowed := true, recurses := true, named := ["bulla/metro.zero"], apart := false, laid := [("bulla/metro.zero", laid_bulla_metro_zero)] }
def MetroKnownSaid : Prop := metroKnownRow.holds Tryd.pinned (OpenSpec.ofChange metroKnownSpec)

/-- ITS FALSE NEIGHBOUR: 'it returns false'. Refute it at one input. -/
def metroKnownWrong : ChangeSpec := { name := "metroKnown", fn := fun _ => fun
  | [] => { results := [.lit (.bool false)], args := [] }
  | _ => none }
def MetroKnownWrongFalsely : Prop := metroKnownRow.holds Tryd.pinned (OpenSpec.ofChange metroKnownWrong)

/- THE SECOND FORM. 'bulk': how many values and letters a reading holds, each counted each time it is reached (what is shared counts as often as it is met; a slice's spare places count too). A statement '..UptoSaid' is the law's where the arguments, and the package variables that the reading takes, are together of bulk at most 1048576: NARROWER than '..Said'. Prove '..Said' where nothing that the law and all that it calls make is longer than what came in: it says more and counts as full. Else prove '..UptoSaid'. A law counts once. -/
mutual
def uptoBulk {H : Type} : DataW H → Nat
  | .lit (.string bytes) => bytes.length + 1
  | .lit _ => 1
  | .nil => 1
  | .ptr d => uptoBulk d + 1
  | .slice elems spare => uptoBulkAll elems + uptoBulkAll spare + 1
  | .agg parts => uptoBulkAll parts + 1
  | .iface _ d => uptoBulk d + 1
  | .map entries => uptoBulkEntries entries + 1
  | .held _ => 1
def uptoBulkAll {H : Type} : List (DataW H) → Nat
  | [] => 0
  | d :: r => uptoBulk d + uptoBulkAll r
def uptoBulkEntries {H : Type} : List (Lit × DataW H) → Nat
  | [] => 0
  | x :: r => uptoBulkEntry x + uptoBulkEntries r
def uptoBulkEntry {H : Type} : Lit × DataW H → Nat
  | (.string bytes, d) => bytes.length + uptoBulk d + 1
  | (_, d) => uptoBulk d + 1
 end
def uptoSmall : (H : Type) → List (DataW H) → Bool := fun _ ds => decide (uptoBulkAll ds ≤ 1048576)
def OpenSpec.upto (s : _root_.Go.ChangeSpec) : _root_.Go.OpenSpec := { _root_.Go.OpenSpec.ofChange s with cond := some uptoSmall }

/-- 'bullalaw01.MetroRatioMakes', WHERE WHAT IT READS IS OF BULK AT MOST 1048576: true; the input reads as it did. -/
def metroRatioMakesUptoRow : OpenClaim := { program := "ytmibpncmebhbjaadoor", sum := "67d480770093e68bf14f94c13a7d5806a3c31e9bc34af1aed1e679412696a926", func := "bulla/bullalaw01.MetroRatioMakes", spec := "metroRatioMakes", unfollowed := true, recurses := true, named := ["bulla/metro.zero"], apart := false, laid := [("bulla/metro.zero", laid_bulla_metro_zero)], narrowed := true }
def MetroRatioMakesUptoSaid : Prop := metroRatioMakesUptoRow.holds Tryd.pinned (OpenSpec.upto metroRatioMakesSpec)

/-- 'bullalaw01.MetroLadderReads', WHERE WHAT IT READS IS OF BULK AT MOST 1048576: true; the input reads as it did. -/
def metroLadderReadsUptoRow : OpenClaim := { program := "ytmibpncmebhbjaadoor", sum := "67d480770093e68bf14f94c13a7d5806a3c31e9bc34af1aed1e679412696a926", func := "bulla/bullalaw01.MetroLadderReads", spec := "metroLadderReads", unfollowed := true, recurses := true, named := ["bulla/metro.zero"], apart := false, laid := [("bulla/metro.zero", laid_bulla_metro_zero)], narrowed := true }
def MetroLadderReadsUptoSaid : Prop := metroLadderReadsUptoRow.holds Tryd.pinned (OpenSpec.upto metroLadderReadsSpec)

/-- 'bullalaw01.MetroConvertBack', WHERE WHAT IT READS IS OF BULK AT MOST 1048576: true; the input reads as it did. -/
def metroConvertBackUptoRow : OpenClaim := { program := "ytmibpncmebhbjaadoor", sum := "67d480770093e68bf14f94c13a7d5806a3c31e9bc34af1aed1e679412696a926", func := "bulla/bullalaw01.MetroConvertBack", spec := "metroConvertBack", unfollowed := true, recurses := true, named := ["bulla/metro.zero"], apart := false, laid := [("bulla/metro.zero", laid_bulla_metro_zero)], narrowed := true }
def MetroConvertBackUptoSaid : Prop := metroConvertBackUptoRow.holds Tryd.pinned (OpenSpec.upto metroConvertBackSpec)

/-- 'bullalaw01.MetroBookConverts', WHERE WHAT IT READS IS OF BULK AT MOST 1048576: true; the input reads as it did. -/
def metroBookConvertsUptoRow : OpenClaim := { program := "ytmibpncmebhbjaadoor", sum := "67d480770093e68bf14f94c13a7d5806a3c31e9bc34af1aed1e679412696a926", func := "bulla/bullalaw01.MetroBookConverts", spec := "metroBookConverts", unfollowed := true, recurses := true, named := ["bulla/metro.zero"], apart := false, laid := [("bulla/metro.zero", laid_bulla_metro_zero)], narrowed := true }
def MetroBookConvertsUptoSaid : Prop := metroBookConvertsUptoRow.holds Tryd.pinned (OpenSpec.upto metroBookConvertsSpec)

/-- 'bullalaw01.MetroRatioOrder', WHERE WHAT IT READS IS OF BULK AT MOST 1048576: true; the input reads as it did. -/
def metroRatioOrderUptoRow : OpenClaim := { program := "ytmibpncmebhbjaadoor", sum := "67d480770093e68bf14f94c13a7d5806a3c31e9bc34af1aed1e679412696a926", func := "bulla/bullalaw01.MetroRatioOrder", spec := "metroRatioOrder", unfollowed := true, recurses := true, named := ["bulla/metro.zero"], apart := false, laid := [("bulla/metro.zero", laid_bulla_metro_zero)], narrowed := true }
def MetroRatioOrderUptoSaid : Prop := metroRatioOrderUptoRow.holds Tryd.pinned (OpenSpec.upto metroRatioOrderSpec)

/-- 'bullalaw01.MetroRoundNear', WHERE WHAT IT READS IS OF BULK AT MOST 1048576: true; the input reads as it did. -/
def metroRoundNearUptoRow : OpenClaim := { program := "ytmibpncmebhbjaadoor", sum := "67d480770093e68bf14f94c13a7d5806a3c31e9bc34af1aed1e679412696a926", func := "bulla/bullalaw01.MetroRoundNear", spec := "metroRoundNear", unfollowed := true, recurses := true, named := ["bulla/metro.zero"], apart := false, laid := [("bulla/metro.zero", laid_bulla_metro_zero)], narrowed := true }
def MetroRoundNearUptoSaid : Prop := metroRoundNearUptoRow.holds Tryd.pinned (OpenSpec.upto metroRoundNearSpec)

/-- 'bullalaw01.MetroBridgeOrder', WHERE WHAT IT READS IS OF BULK AT MOST 1048576: true; the input reads as it did. -/
def metroBridgeOrderUptoRow : OpenClaim := { program := "ytmibpncmebhbjaadoor", sum := "67d480770093e68bf14f94c13a7d5806a3c31e9bc34af1aed1e679412696a926", func := "bulla/bullalaw01.MetroBridgeOrder", spec := "metroBridgeOrder", unfollowed := true, recurses := true, named := ["bulla/metro.zero"], apart := false, laid := [("bulla/metro.zero", laid_bulla_metro_zero)], narrowed := true }
def MetroBridgeOrderUptoSaid : Prop := metroBridgeOrderUptoRow.holds Tryd.pinned (OpenSpec.upto metroBridgeOrderSpec)

/-- 'bullalaw01.MetroLadderSplits', WHERE WHAT IT READS IS OF BULK AT MOST 1048576: true; the input reads as it did. -/
def metroLadderSplitsUptoRow : OpenClaim := { program := "ytmibpncmebhbjaadoor", sum := "67d480770093e68bf14f94c13a7d5806a3c31e9bc34af1aed1e679412696a926", func := "bulla/bullalaw01.MetroLadderSplits", spec := "metroLadderSplits", unfollowed := true, recurses := true, named := ["bulla/metro.zero"], apart := false, laid := [("bulla/metro.zero", laid_bulla_metro_zero)], narrowed := true }
def MetroLadderSplitsUptoSaid : Prop := metroLadderSplitsUptoRow.holds Tryd.pinned (OpenSpec.upto metroLadderSplitsSpec)

/-- 'bullalaw01.MetroConvertAgree', WHERE WHAT IT READS IS OF BULK AT MOST 1048576: true; the input reads as it did. -/
def metroConvertAgreeUptoRow : OpenClaim := { program := "ytmibpncmebhbjaadoor", sum := "67d480770093e68bf14f94c13a7d5806a3c31e9bc34af1aed1e679412696a926", func := "bulla/bullalaw01.MetroConvertAgree", spec := "metroConvertAgree", unfollowed := true, recurses := true, named := ["bulla/metro.zero"], apart := false, laid := [("bulla/metro.zero", laid_bulla_metro_zero)], narrowed := true }
def MetroConvertAgreeUptoSaid : Prop := metroConvertAgreeUptoRow.holds Tryd.pinned (OpenSpec.upto metroConvertAgreeSpec)

/-- 'bullalaw01.MetroRatioProducts', WHERE WHAT IT READS IS OF BULK AT MOST 1048576: true; the input reads as it did. -/
def metroRatioProductsUptoRow : OpenClaim := { program := "ytmibpncmebhbjaadoor", sum := "67d480770093e68bf14f94c13a7d5806a3c31e9bc34af1aed1e679412696a926", func := "bulla/bullalaw01.MetroRatioProducts", spec := "metroRatioProducts", unfollowed := true, recurses := true, named := ["bulla/metro.zero"], apart := false, laid := [("bulla/metro.zero", laid_bulla_metro_zero)], narrowed := true }
def MetroRatioProductsUptoSaid : Prop := metroRatioProductsUptoRow.holds Tryd.pinned (OpenSpec.upto metroRatioProductsSpec)

/-- 'bullalaw01.MetroRatioProductOrder', WHERE WHAT IT READS IS OF BULK AT MOST 1048576: true; the input reads as it did. -/
def metroRatioProductOrderUptoRow : OpenClaim := { program := "ytmibpncmebhbjaadoor", sum := "67d480770093e68bf14f94c13a7d5806a3c31e9bc34af1aed1e679412696a926", func := "bulla/bullalaw01.MetroRatioProductOrder", spec := "metroRatioProductOrder", unfollowed := true, recurses := true, named := ["bulla/metro.zero"], apart := false, laid := [("bulla/metro.zero", laid_bulla_metro_zero)], narrowed := true }
def MetroRatioProductOrderUptoSaid : Prop := metroRatioProductOrderUptoRow.holds Tryd.pinned (OpenSpec.upto metroRatioProductOrderSpec)

/-- 'bullalaw01.MetroLadderBack', WHERE WHAT IT READS IS OF BULK AT MOST 1048576: true; the input reads as it did. -/
def metroLadderBackUptoRow : OpenClaim := { program := "ytmibpncmebhbjaadoor", sum := "67d480770093e68bf14f94c13a7d5806a3c31e9bc34af1aed1e679412696a926", func := "bulla/bullalaw01.MetroLadderBack", spec := "metroLadderBack", unfollowed := true, recurses := true, named := ["bulla/metro.zero"], apart := false, laid := [("bulla/metro.zero", laid_bulla_metro_zero)], narrowed := true }
def MetroLadderBackUptoSaid : Prop := metroLadderBackUptoRow.holds Tryd.pinned (OpenSpec.upto metroLadderBackSpec)

/-- 'bullalaw01.MetroRatioField', WHERE WHAT IT READS IS OF BULK AT MOST 1048576: true; the input reads as it did. -/
def metroRatioFieldUptoRow : OpenClaim := { program := "ytmibpncmebhbjaadoor", sum := "67d480770093e68bf14f94c13a7d5806a3c31e9bc34af1aed1e679412696a926", func := "bulla/bullalaw01.MetroRatioField", spec := "metroRatioField", unfollowed := true, recurses := true, named := ["bulla/metro.zero"], apart := false, laid := [("bulla/metro.zero", laid_bulla_metro_zero)], narrowed := true }
def MetroRatioFieldUptoSaid : Prop := metroRatioFieldUptoRow.holds Tryd.pinned (OpenSpec.upto metroRatioFieldSpec)

/-- 'bullalaw01.MetroBookMakes', WHERE WHAT IT READS IS OF BULK AT MOST 1048576: true; the input reads as it did. -/
def metroBookMakesUptoRow : OpenClaim := { program := "ytmibpncmebhbjaadoor", sum := "67d480770093e68bf14f94c13a7d5806a3c31e9bc34af1aed1e679412696a926", func := "bulla/bullalaw01.MetroBookMakes", spec := "metroBookMakes", unfollowed := true, recurses := true, named := ["bulla/metro.zero"], apart := false, laid := [("bulla/metro.zero", laid_bulla_metro_zero)], narrowed := true }
def MetroBookMakesUptoSaid : Prop := metroBookMakesUptoRow.holds Tryd.pinned (OpenSpec.upto metroBookMakesSpec)

/-- 'bullalaw01.MetroLadderTotals', WHERE WHAT IT READS IS OF BULK AT MOST 1048576: true; the input reads as it did. -/
def metroLadderTotalsUptoRow : OpenClaim := { program := "ytmibpncmebhbjaadoor", sum := "67d480770093e68bf14f94c13a7d5806a3c31e9bc34af1aed1e679412696a926", func := "bulla/bullalaw01.MetroLadderTotals", spec := "metroLadderTotals", unfollowed := true, recurses := true, named := ["bulla/metro.zero"], apart := false, laid := [("bulla/metro.zero", laid_bulla_metro_zero)], narrowed := true }
def MetroLadderTotalsUptoSaid : Prop := metroLadderTotalsUptoRow.holds Tryd.pinned (OpenSpec.upto metroLadderTotalsSpec)

/-- 'bullalaw01.MetroCarryKeeps', WHERE WHAT IT READS IS OF BULK AT MOST 1048576: true; the input reads as it did. -/
def metroCarryKeepsUptoRow : OpenClaim := { program := "ytmibpncmebhbjaadoor", sum := "67d480770093e68bf14f94c13a7d5806a3c31e9bc34af1aed1e679412696a926", func := "bulla/bullalaw01.MetroCarryKeeps", spec := "metroCarryKeeps", unfollowed := true, recurses := true, named := ["bulla/metro.zero"], apart := false, laid := [("bulla/metro.zero", laid_bulla_metro_zero)], narrowed := true }
def MetroCarryKeepsUptoSaid : Prop := metroCarryKeepsUptoRow.holds Tryd.pinned (OpenSpec.upto metroCarryKeepsSpec)

/-- 'bullalaw01.MetroRatioSums', WHERE WHAT IT READS IS OF BULK AT MOST 1048576: true; the input reads as it did. -/
def metroRatioSumsUptoRow : OpenClaim := { program := "ytmibpncmebhbjaadoor", sum := "67d480770093e68bf14f94c13a7d5806a3c31e9bc34af1aed1e679412696a926", func := "bulla/bullalaw01.MetroRatioSums", spec := "metroRatioSums", unfollowed := true, recurses := true, named := ["bulla/metro.zero"], apart := false, laid := [("bulla/metro.zero", laid_bulla_metro_zero)], narrowed := true }
def MetroRatioSumsUptoSaid : Prop := metroRatioSumsUptoRow.holds Tryd.pinned (OpenSpec.upto metroRatioSumsSpec)

/-- 'bullalaw01.MetroKnown', WHERE WHAT IT READS IS OF BULK AT MOST 1048576: true; the input reads as it did. -/
def metroKnownUptoRow : OpenClaim := { program := "ytmibpncmebhbjaadoor", sum := "67d480770093e68bf14f94c13a7d5806a3c31e9bc34af1aed1e679412696a926", func := "bulla/bullalaw01.MetroKnown", spec := "metroKnown", unfollowed := true, recurses := true, named := ["bulla/metro.zero"], apart := false, laid := [("bulla/metro.zero", laid_bulla_metro_zero)], narrowed := true }
def MetroKnownUptoSaid : Prop := metroKnownUptoRow.holds Tryd.pinned (OpenSpec.upto metroKnownSpec)

end Rows
end Go.Proofs.YtmibpncmebhbjaaDoor
