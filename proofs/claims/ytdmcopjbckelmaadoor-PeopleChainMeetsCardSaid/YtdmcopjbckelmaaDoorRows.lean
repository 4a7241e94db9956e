/-
  NARROWER THAN 'FOR EVERY INPUT', by the rows' own cells (each row's printed sentence says how): PeopleChecks: laid · PeopleFactsMay: laid · PeopleLivesSolve: laid · PeopleFactsNarrow: laid · PeopleMustMay: laid · PeopleTermNames: laid · PeopleContrarySmallest: laid · PeopleChainMeets: laid · PeopleStepsAdd: laid · PeopleSharesSum: laid · PeopleMergeKeeps: laid.
  DERIVED. THE GIVEN ROWS OF THIS SEAT. 11 by the template 'for every input the law returns true; each argument reads behind the call as it read before'; 0 by the template 'total and deterministic' (their statements: YtdmcopjbckelmaaDoorTotals.lean).
  GIVEN WITH THE SEED: the statements are not yours to turn. If you find one false, say at which input.
  Laid BY PROGRAM, IN A SANDBOX (cutbox-rows.mjs): the forced cells as the released guide's own fill.sh prints them over the translation 19509ac5495440ba… (all of the seat's roots in one cut). By AI agents, Wed Nov 11 2026. No macro, syntax, notation, axiom, sorry.
-/
import Derived.Test.YtdmcopjbckelmaaDoorChecked
import GoSem.Claim
import GoSem.ClaimJoined
import GoSem.ClaimMapViews
import Derived.JoinedTies
import Derived.KernelRfl
namespace Go.Proofs.YtdmcopjbckelmaaDoor
/- THE CELL 'sum', in the pinned program and in every row, IS THE sha256 OF THE DUMP (.gsa) THAT YtdmcopjbckelmaaDoorProg.lean LOADS. Nothing in Lean hashes anything: it is a label: what it is worth is what the hold of that sum in a sandbox is worth. -/
noncomputable def Tryd.pinned : Pinned := { name := "ytdmcopjbckelmaadoor", sum := "19509ac5495440babc64314ba224aa4e91e27942ab901e9df17046903bab8dfc", checked := Tryd.checked }
namespace Rows
def none {H : Type} : Left H := { results := [], args := [] }

/- WHAT THE LISTED PACKAGE-LEVEL VARIABLES READ AS WHEN THE CALL BEGINS. Each datum BY PROGRAM (the guide's laid-datum.mjs) off the statement by which the dump's own 'gosem.cut.vars' lays the variable. In a bare row this is a premise. The card (YtdmcopjbckelmaaDoorCards.lean) ties it to the program's text. -/
def laid_bulla_metro_zero {H : Type} : DataW H := .agg [.lit (.int .i64 0), .lit (.int .i64 1)]

/-- 'bullalaw10.PeopleChecks': WHATEVER THE INPUT: true; the input reads as it did. -/
def peopleChecksSpec : ChangeSpec := { name := "peopleChecks", fn := fun _ => fun
  | [d] => { results := [.lit (.bool true)], args := [d] }
  | _ => none }
def peopleChecksRow : OpenClaim := { program := "ytdmcopjbckelmaadoor", sum := "19509ac5495440babc64314ba224aa4e91e27942ab901e9df17046903bab8dfc", func := "bulla/bullalaw10.PeopleChecks", spec := "peopleChecks", unfollowed := true, recurses := true, named := ["bulla/metro.zero"], plainKeys := false, apart := false, laid := [("bulla/metro.zero", laid_bulla_metro_zero)] }
def PeopleChecksSaid : Prop := peopleChecksRow.holds Tryd.pinned (OpenSpec.ofChange peopleChecksSpec)

/-- ITS FALSE NEIGHBOUR: 'it returns false'. Refute it at one input. -/
def peopleChecksWrong : ChangeSpec := { name := "peopleChecks", fn := fun _ => fun
  | [d] => { results := [.lit (.bool false)], args := [d] }
  | _ => none }
def PeopleChecksWrongFalsely : Prop := peopleChecksRow.holds Tryd.pinned (OpenSpec.ofChange peopleChecksWrong)

/-- 'bullalaw10.PeopleFactsMay': WHATEVER THE INPUT: true; the input reads as it did. -/
def peopleFactsMaySpec : ChangeSpec := { name := "peopleFactsMay", fn := fun _ => fun
  | [d1, d2] => { results := [.lit (.bool true)], args := [d1, d2] }
  | _ => none }
def peopleFactsMayRow : OpenClaim := { program := "ytdmcopjbckelmaadoor", sum := "19509ac5495440babc64314ba224aa4e91e27942ab901e9df17046903bab8dfc", func := "bulla/bullalaw10.PeopleFactsMay", spec := "peopleFactsMay", unfollowed := true, recurses := true, named := ["bulla/metro.zero"], plainKeys := false, apart := false, laid := [("bulla/metro.zero", laid_bulla_metro_zero)] }
def PeopleFactsMaySaid : Prop := peopleFactsMayRow.holds Tryd.pinned (OpenSpec.ofChange peopleFactsMaySpec)

/-- ITS FALSE NEIGHBOUR: 'it returns false'. Refute it at one input. -/
def peopleFactsMayWrong : ChangeSpec := { name := "peopleFactsMay", fn := fun _ => fun
  | [d1, d2] => { results := [.lit (.bool false)], args := [d1, d2] }
  | _ => none }
def PeopleFactsMayWrongFalsely : Prop := peopleFactsMayRow.holds Tryd.pinned (OpenSpec.ofChange peopleFactsMayWrong)

/-- 'bullalaw10.PeopleLivesSolve': WHATEVER THE INPUT: true; the input reads as it did. -/
def peopleLivesSolveSpec : ChangeSpec := { name := "peopleLivesSolve", fn := fun _ => fun
  | [d1, d2] => { results := [.lit (.bool true)], args := [d1, d2] }
  | _ => none }
def peopleLivesSolveRow : OpenClaim := { program := "ytdmcopjbckelmaadoor", sum := "19509ac5495440babc64314ba224aa4e91e27942ab901e9df17046903bab8dfc", func := "bulla/bullalaw10.PeopleLivesSolve", spec := "peopleLivesSolve", unfollowed := true, recurses := true, named := ["bulla/metro.zero"], plainKeys := false, apart := false, laid := [("bulla/metro.zero", laid_bulla_metro_zero)] }
def PeopleLivesSolveSaid : Prop := peopleLivesSolveRow.holds Tryd.pinned (OpenSpec.ofChange peopleLivesSolveSpec)

/-- ITS FALSE NEIGHBOUR: 'it returns false'. Refute it at one input. -/
def peopleLivesSolveWrong : ChangeSpec := { name := "peopleLivesSolve", fn := fun _ => fun
  | [d1, d2] => { results := [.lit (.bool false)], args := [d1, d2] }
  | _ => none }
def PeopleLivesSolveWrongFalsely : Prop := peopleLivesSolveRow.holds Tryd.pinned (OpenSpec.ofChange peopleLivesSolveWrong)

/-- 'bullalaw10.PeopleFactsNarrow': WHATEVER THE INPUT: true; the input reads as it did. -/
def peopleFactsNarrowSpec : ChangeSpec := { name := "peopleFactsNarrow", fn := fun _ => fun
  | [d1, d2] => { results := [.lit (.bool true)], args := [d1, d2] }
  | _ => none }
def peopleFactsNarrowRow : OpenClaim := { program := "ytdmcopjbckelmaadoor", sum := "19509ac5495440babc64314ba224aa4e91e27942ab901e9df17046903bab8dfc", func := "bulla/bullalaw10.PeopleFactsNarrow", spec := "peopleFactsNarrow", unfollowed := true, recurses := true, named := ["bulla/metro.zero"], plainKeys := false, apart := false, laid := [("bulla/metro.zero", laid_bulla_metro_zero)] }
def PeopleFactsNarrowSaid : Prop := peopleFactsNarrowRow.holds Tryd.pinned (OpenSpec.ofChange peopleFactsNarrowSpec)

/-- ITS FALSE NEIGHBOUR: 'it returns false'. Refute it at one input. -/
def peopleFactsNarrowWrong : ChangeSpec := { name := "peopleFactsNarrow", fn := fun _ => fun
  | [d1, d2] => { results := [.lit (.bool false)], args := [d1, d2] }
  | _ => none }
def PeopleFactsNarrowWrongFalsely : Prop := peopleFactsNarrowRow.holds Tryd.pinned (OpenSpec.ofChange peopleFactsNarrowWrong)

/-- 'bullalaw10.PeopleMustMay': WHATEVER THE INPUT: true; the input reads as it did. -/
def peopleMustMaySpec : ChangeSpec := { name := "peopleMustMay", fn := fun _ => fun
  | [d1, d2, d3] => { results := [.lit (.bool true)], args := [d1, d2, d3] }
  | _ => none }
def peopleMustMayRow : OpenClaim := { program := "ytdmcopjbckelmaadoor", sum := "19509ac5495440babc64314ba224aa4e91e27942ab901e9df17046903bab8dfc", func := "bulla/bullalaw10.PeopleMustMay", spec := "peopleMustMay", unfollowed := true, recurses := true, named := ["bulla/metro.zero"], plainKeys := false, apart := false, laid := [("bulla/metro.zero", laid_bulla_metro_zero)] }
def PeopleMustMaySaid : Prop := peopleMustMayRow.holds Tryd.pinned (OpenSpec.ofChange peopleMustMaySpec)

/-- ITS FALSE NEIGHBOUR: 'it returns false'. Refute it at one input. -/
def peopleMustMayWrong : ChangeSpec := { name := "peopleMustMay", fn := fun _ => fun
  | [d1, d2, d3] => { results := [.lit (.bool false)], args := [d1, d2, d3] }
  | _ => none }
def PeopleMustMayWrongFalsely : Prop := peopleMustMayRow.holds Tryd.pinned (OpenSpec.ofChange peopleMustMayWrong)

/-- 'bullalaw10.PeopleTermNames': WHATEVER THE INPUT: true; the input reads as it did. -/
def peopleTermNamesSpec : ChangeSpec := { name := "peopleTermNames", fn := fun _ => fun
  | [d1, d2] => { results := [.lit (.bool true)], args := [d1, d2] }
  | _ => none }
def peopleTermNamesRow : OpenClaim := { program := "ytdmcopjbckelmaadoor", sum := "19509ac5495440babc64314ba224aa4e91e27942ab901e9df17046903bab8dfc", func := "bulla/bullalaw10.PeopleTermNames", spec := "peopleTermNames", unfollowed := true, recurses := true, named := ["bulla/metro.zero"], plainKeys := false, apart := false, laid := [("bulla/metro.zero", laid_bulla_metro_zero)] }
def PeopleTermNamesSaid : Prop := peopleTermNamesRow.holds Tryd.pinned (OpenSpec.ofChange peopleTermNamesSpec)

/-- ITS FALSE NEIGHBOUR: 'it returns false'. Refute it at one input. -/
def peopleTermNamesWrong : ChangeSpec := { name := "peopleTermNames", fn := fun _ => fun
  | [d1, d2] => { results := [.lit (.bool false)], args := [d1, d2] }
  | _ => none }
def PeopleTermNamesWrongFalsely : Prop := peopleTermNamesRow.holds Tryd.pinned (OpenSpec.ofChange peopleTermNamesWrong)

/-- 'bullalaw10.PeopleContrarySmallest': WHATEVER THE INPUT: true; the input reads as it did. -/
def peopleContrarySmallestSpec : ChangeSpec := { name := "peopleContrarySmallest", fn := fun _ => fun
  | [d1, d2, d3] => { results := [.lit (.bool true)], args := [d1, d2, d3] }
  | _ => none }
def peopleContrarySmallestRow : OpenClaim := { program := "ytdmcopjbckelmaadoor", sum := "19509ac5495440babc64314ba224aa4e91e27942ab901e9df17046903bab8dfc", func := "bulla/bullalaw10.PeopleContrarySmallest", spec := "peopleContrarySmallest", unfollowed := true, recurses := true, named := ["bulla/metro.zero"], plainKeys := false, apart := false, laid := [("bulla/metro.zero", laid_bulla_metro_zero)] }
def PeopleContrarySmallestSaid : Prop := peopleContrarySmallestRow.holds Tryd.pinned (OpenSpec.ofChange peopleContrarySmallestSpec)

/-- ITS FALSE NEIGHBOUR: 'it returns false'. Refute it at one input. -/
def peopleContrarySmallestWrong : ChangeSpec := { name := "peopleContrarySmallest", fn := fun _ => fun
  | [d1, d2, d3] => { results := [.lit (.bool false)], args := [d1, d2, d3] }
  | _ => none }
def PeopleContrarySmallestWrongFalsely : Prop := peopleContrarySmallestRow.holds Tryd.pinned (OpenSpec.ofChange peopleContrarySmallestWrong)

/-- 'bullalaw10.PeopleChainMeets': WHATEVER THE INPUT: true; the input reads as it did. -/
def peopleChainMeetsSpec : ChangeSpec := { name := "peopleChainMeets", fn := fun _ => fun
  | [d1, d2, d3] => { results := [.lit (.bool true)], args := [d1, d2, d3] }
  | _ => none }
def peopleChainMeetsRow : OpenClaim := { program := "ytdmcopjbckelmaadoor", sum := "19509ac5495440babc64314ba224aa4e91e27942ab901e9df17046903bab8dfc", func := "bulla/bullalaw10.PeopleChainMeets", spec := "peopleChainMeets", unfollowed := true, recurses := true, named := ["bulla/metro.zero"], plainKeys := false, apart := false, laid := [("bulla/metro.zero", laid_bulla_metro_zero)] }
def PeopleChainMeetsSaid : Prop := peopleChainMeetsRow.holds Tryd.pinned (OpenSpec.ofChange peopleChainMeetsSpec)

/-- ITS FALSE NEIGHBOUR: 'it returns false'. Refute it at one input. -/
def peopleChainMeetsWrong : ChangeSpec := { name := "peopleChainMeets", fn := fun _ => fun
  | [d1, d2, d3] => { results := [.lit (.bool false)], args := [d1, d2, d3] }
  | _ => none }
def PeopleChainMeetsWrongFalsely : Prop := peopleChainMeetsRow.holds Tryd.pinned (OpenSpec.ofChange peopleChainMeetsWrong)

/-- 'bullalaw10.PeopleStepsAdd': WHATEVER THE INPUT: true; the input reads as it did. -/
def peopleStepsAddSpec : ChangeSpec := { name := "peopleStepsAdd", fn := fun _ => fun
  | [d1, d2] => { results := [.lit (.bool true)], args := [d1, d2] }
  | _ => none }
def peopleStepsAddRow : OpenClaim := { program := "ytdmcopjbckelmaadoor", sum := "19509ac5495440babc64314ba224aa4e91e27942ab901e9df17046903bab8dfc", func := "bulla/bullalaw10.PeopleStepsAdd", spec := "peopleStepsAdd", unfollowed := true, recurses := true, named := ["bulla/metro.zero"], plainKeys := false, apart := false, laid := [("bulla/metro.zero", laid_bulla_metro_zero)] }
def PeopleStepsAddSaid : Prop := peopleStepsAddRow.holds Tryd.pinned (OpenSpec.ofChange peopleStepsAddSpec)

/-- ITS FALSE NEIGHBOUR: 'it returns false'. Refute it at one input. -/
def peopleStepsAddWrong : ChangeSpec := { name := "peopleStepsAdd", fn := fun _ => fun
  | [d1, d2] => { results := [.lit (.bool false)], args := [d1, d2] }
  | _ => none }
def PeopleStepsAddWrongFalsely : Prop := peopleStepsAddRow.holds Tryd.pinned (OpenSpec.ofChange peopleStepsAddWrong)

/-- 'bullalaw10.PeopleSharesSum': WHATEVER THE INPUT: true; the input reads as it did. -/
def peopleSharesSumSpec : ChangeSpec := { name := "peopleSharesSum", fn := fun _ => fun
  | [d1, d2] => { results := [.lit (.bool true)], args := [d1, d2] }
  | _ => none }
def peopleSharesSumRow : OpenClaim := { program := "ytdmcopjbckelmaadoor", sum := "19509ac5495440babc64314ba224aa4e91e27942ab901e9df17046903bab8dfc", func := "bulla/bullalaw10.PeopleSharesSum", spec := "peopleSharesSum", unfollowed := true, recurses := true, named := ["bulla/metro.zero"], plainKeys := false, apart := false, laid := [("bulla/metro.zero", laid_bulla_metro_zero)] }
def PeopleSharesSumSaid : Prop := peopleSharesSumRow.holds Tryd.pinned (OpenSpec.ofChange peopleSharesSumSpec)

/-- ITS FALSE NEIGHBOUR: 'it returns false'. Refute it at one input. -/
def peopleSharesSumWrong : ChangeSpec := { name := "peopleSharesSum", fn := fun _ => fun
  | [d1, d2] => { results := [.lit (.bool false)], args := [d1, d2] }
  | _ => none }
def PeopleSharesSumWrongFalsely : Prop := peopleSharesSumRow.holds Tryd.pinned (OpenSpec.ofChange peopleSharesSumWrong)

/-- 'bullalaw10.PeopleMergeKeeps': WHATEVER THE INPUT: true; the input reads as it did. -/
def peopleMergeKeepsSpec : ChangeSpec := { name := "peopleMergeKeeps", fn := fun _ => fun
  | [d1, d2, d3] => { results := [.lit (.bool true)], args := [d1, d2, d3] }
  | _ => none }
def peopleMergeKeepsRow : OpenClaim := { program := "ytdmcopjbckelmaadoor", sum := "19509ac5495440babc64314ba224aa4e91e27942ab901e9df17046903bab8dfc", func := "bulla/bullalaw10.PeopleMergeKeeps", spec := "peopleMergeKeeps", unfollowed := true, recurses := true, named := ["bulla/metro.zero"], plainKeys := false, apart := false, laid := [("bulla/metro.zero", laid_bulla_metro_zero)] }
def PeopleMergeKeepsSaid : Prop := peopleMergeKeepsRow.holds Tryd.pinned (OpenSpec.ofChange peopleMergeKeepsSpec)

/-- ITS FALSE NEIGHBOUR: 'it returns false'. Refute it at one input. -/
def peopleMergeKeepsWrong : ChangeSpec := { name := "peopleMergeKeeps", fn := fun _ => fun
  | [d1, d2, d3] => { results := [.lit (.bool false)], args := [d1, d2, d3] }
  | _ => none }
def PeopleMergeKeepsWrongFalsely : Prop := peopleMergeKeepsRow.holds Tryd.pinned (OpenSpec.ofChange peopleMergeKeepsWrong)

/- THE SECOND FORM. 'bulk': how many values and letters a reading holds, each counted each time it is reached (what is shared counts as often as it is met; a slice's spare places count too). A statement '..UptoSaid' is the law's where the arguments, and the package variables that the reading takes, are together of bulk at most 1048576: NARROWER than '..Said'. Prove '..Said' where nothing that the law and all that it calls make is longer than what came in: it says more and counts as full. Else prove '..UptoSaid'. A law counts once. -/
mutual
def uptoBulk {H : Type} : DataW H → Nat
  | .lit (.string bytes) => bytes.length + 1
  | .lit _ => 1
  | .nil => 1
  | .ptr d => uptoBulk d + 1
  | .slice elems spare => uptoBulkAll elems + uptoBulkAll spare + 1
  | .agg parts => uptoBulkAll parts + 1
  | .iface _ d => uptoBulk d + 1
  | .map entries => uptoBulkEntries entries + 1
  | .held _ => 1
def uptoBulkAll {H : Type} : List (DataW H) → Nat
  | [] => 0
  | d :: r => uptoBulk d + uptoBulkAll r
def uptoBulkEntries {H : Type} : List (Lit × DataW H) → Nat
  | [] => 0
  | x :: r => uptoBulkEntry x + uptoBulkEntries r
def uptoBulkEntry {H : Type} : Lit × DataW H → Nat
  | (.string bytes, d) => bytes.length + uptoBulk d + 1
  | (_, d) => uptoBulk d + 1
 end
def uptoSmall : (H : Type) → List (DataW H) → Bool := fun _ ds => decide (uptoBulkAll ds ≤ 1048576)
def OpenSpec.upto (s : _root_.Go.ChangeSpec) : _root_.Go.OpenSpec := { _root_.Go.OpenSpec.ofChange s with cond := some uptoSmall }

/-- 'bullalaw10.PeopleChecks', WHERE WHAT IT READS IS OF BULK AT MOST 1048576: true; the input reads as it did. -/
def peopleChecksUptoRow : OpenClaim := { program := "ytdmcopjbckelmaadoor", sum := "19509ac5495440babc64314ba224aa4e91e27942ab901e9df17046903bab8dfc", func := "bulla/bullalaw10.PeopleChecks", spec := "peopleChecks", unfollowed := true, recurses := true, named := ["bulla/metro.zero"], plainKeys := false, apart := false, laid := [("bulla/metro.zero", laid_bulla_metro_zero)], narrowed := true }
def PeopleChecksUptoSaid : Prop := peopleChecksUptoRow.holds Tryd.pinned (OpenSpec.upto peopleChecksSpec)

/-- 'bullalaw10.PeopleFactsMay', WHERE WHAT IT READS IS OF BULK AT MOST 1048576: true; the input reads as it did. -/
def peopleFactsMayUptoRow : OpenClaim := { program := "ytdmcopjbckelmaadoor", sum := "19509ac5495440babc64314ba224aa4e91e27942ab901e9df17046903bab8dfc", func := "bulla/bullalaw10.PeopleFactsMay", spec := "peopleFactsMay", unfollowed := true, recurses := true, named := ["bulla/metro.zero"], plainKeys := false, apart := false, laid := [("bulla/metro.zero", laid_bulla_metro_zero)], narrowed := true }
def PeopleFactsMayUptoSaid : Prop := peopleFactsMayUptoRow.holds Tryd.pinned (OpenSpec.upto peopleFactsMaySpec)

/-- 'bullalaw10.PeopleLivesSolve', WHERE WHAT IT READS IS OF BULK AT MOST 1048576: true; the input reads as it did. -/
def peopleLivesSolveUptoRow : OpenClaim := { program := "ytdmcopjbckelmaadoor", sum := "19509ac5495440babc64314ba224aa4e91e27942ab901e9df17046903bab8dfc", func := "bulla/bullalaw10.PeopleLivesSolve", spec := "peopleLivesSolve", unfollowed := true, recurses := true, named := ["bulla/metro.zero"], plainKeys := false, apart := false, laid := [("bulla/metro.zero", laid_bulla_metro_zero)], narrowed := true }
def PeopleLivesSolveUptoSaid : Prop := peopleLivesSolveUptoRow.holds Tryd.pinned (OpenSpec.upto peopleLivesSolveSpec)

/-- 'bullalaw10.PeopleFactsNarrow', WHERE WHAT IT READS IS OF BULK AT MOST 1048576: true; the input reads as it did. -/
def peopleFactsNarrowUptoRow : OpenClaim := { program := "ytdmcopjbckelmaadoor", sum := "19509ac5495440babc64314ba224aa4e91e27942ab901e9df17046903bab8dfc", func := "bulla/bullalaw10.PeopleFactsNarrow", spec := "peopleFactsNarrow", unfollowed := true, recurses := true, named := ["bulla/metro.zero"], plainKeys := false, apart := false, laid := [("bulla/metro.zero", laid_bulla_metro_zero)], narrowed := true }
def PeopleFactsNarrowUptoSaid : Prop := peopleFactsNarrowUptoRow.holds Tryd.pinned (OpenSpec.upto peopleFactsNarrowSpec)

/-- 'bullalaw10.PeopleMustMay', WHERE WHAT IT READS IS OF BULK AT MOST 1048576: true; the input reads as it did. -/
def peopleMustMayUptoRow : OpenClaim := { program := "ytdmcopjbckelmaadoor", sum := "19509ac5495440babc64314ba224aa4e91e27942ab901e9df17046903bab8dfc", func := "bulla/bullalaw10.PeopleMustMay", spec := "peopleMustMay", unfollowed := true, recurses := true, named := ["bulla/metro.zero"], plainKeys := false, apart := false, laid := [("bulla/metro.zero", laid_bulla_metro_zero)], narrowed := true }
def PeopleMustMayUptoSaid : Prop := peopleMustMayUptoRow.holds Tryd.pinned (OpenSpec.upto peopleMustMaySpec)

/-- 'bullalaw10.PeopleTermNames', WHERE WHAT IT READS IS OF BULK AT MOST 1048576: true; the input reads as it did. -/
def peopleTermNamesUptoRow : OpenClaim := { program := "ytdmcopjbckelmaadoor", sum := "19509ac5495440babc64314ba224aa4e91e27942ab901e9df17046903bab8dfc", func := "bulla/bullalaw10.PeopleTermNames", spec := "peopleTermNames", unfollowed := true, recurses := true, named := ["bulla/metro.zero"], plainKeys := false, apart := false, laid := [("bulla/metro.zero", laid_bulla_metro_zero)], narrowed := true }
def PeopleTermNamesUptoSaid : Prop := peopleTermNamesUptoRow.holds Tryd.pinned (OpenSpec.upto peopleTermNamesSpec)

/-- 'bullalaw10.PeopleContrarySmallest', WHERE WHAT IT READS IS OF BULK AT MOST 1048576: true; the input reads as it did. -/
def peopleContrarySmallestUptoRow : OpenClaim := { program := "ytdmcopjbckelmaadoor", sum := "19509ac5495440babc64314ba224aa4e91e27942ab901e9df17046903bab8dfc", func := "bulla/bullalaw10.PeopleContrarySmallest", spec := "peopleContrarySmallest", unfollowed := true, recurses := true, named := ["bulla/metro.zero"], plainKeys := false, apart := false, laid := [("bulla/metro.zero", laid_bulla_metro_zero)], narrowed := true }
def PeopleContrarySmallestUptoSaid : Prop := peopleContrarySmallestUptoRow.holds Tryd.pinned (OpenSpec.upto peopleContrarySmallestSpec)

/-- 'bullalaw10.PeopleChainMeets', WHERE WHAT IT READS IS OF BULK AT MOST 1048576: true; the input reads as it did. -/
def peopleChainMeetsUptoRow : OpenClaim := { program := "ytdmcopjbckelmaadoor", sum := "19509ac5495440babc64314ba224aa4e91e27942ab901e9df17046903bab8dfc", func := "bulla/bullalaw10.PeopleChainMeets", spec := "peopleChainMeets", unfollowed := true, recurses := true, named := ["bulla/metro.zero"], plainKeys := false, apart := false, laid := [("bulla/metro.zero", laid_bulla_metro_zero)], narrowed := true }
def PeopleChainMeetsUptoSaid : Prop := peopleChainMeetsUptoRow.holds Tryd.pinned (OpenSpec.upto peopleChainMeetsSpec)

/-- 'bullalaw10.PeopleStepsAdd', WHERE WHAT IT READS IS OF BULK AT MOST 1048576: true; the input reads as it did. -/
def peopleStepsAddUptoRow : OpenClaim := { program := "ytdmcopjbckelmaadoor", sum := "19509ac5495440babc64314ba224aa4e91e27942ab901e9df17046903bab8dfc", func := "bulla/bullalaw10.PeopleStepsAdd", spec := "peopleStepsAdd", unfollowed := true, recurses := true, named := ["bulla/metro.zero"], plainKeys := false, apart := false, laid := [("bulla/metro.zero", laid_bulla_metro_zero)], narrowed := true }
def PeopleStepsAddUptoSaid : Prop := peopleStepsAddUptoRow.holds Tryd.pinned (OpenSpec.upto peopleStepsAddSpec)

/-- 'bullalaw10.PeopleSharesSum', WHERE WHAT IT READS IS OF BULK AT MOST 1048576: true; the input reads as it did. -/
def peopleSharesSumUptoRow : OpenClaim := { program := "ytdmcopjbckelmaadoor", sum := "19509ac5495440babc64314ba224aa4e91e27942ab901e9df17046903bab8dfc", func := "bulla/bullalaw10.PeopleSharesSum", spec := "peopleSharesSum", unfollowed := true, recurses := true, named := ["bulla/metro.zero"], plainKeys := false, apart := false, laid := [("bulla/metro.zero", laid_bulla_metro_zero)], narrowed := true }
def PeopleSharesSumUptoSaid : Prop := peopleSharesSumUptoRow.holds Tryd.pinned (OpenSpec.upto peopleSharesSumSpec)

/-- 'bullalaw10.PeopleMergeKeeps', WHERE WHAT IT READS IS OF BULK AT MOST 1048576: true; the input reads as it did. -/
def peopleMergeKeepsUptoRow : OpenClaim := { program := "ytdmcopjbckelmaadoor", sum := "19509ac5495440babc64314ba224aa4e91e27942ab901e9df17046903bab8dfc", func := "bulla/bullalaw10.PeopleMergeKeeps", spec := "peopleMergeKeeps", unfollowed := true, recurses := true, named := ["bulla/metro.zero"], plainKeys := false, apart := false, laid := [("bulla/metro.zero", laid_bulla_metro_zero)], narrowed := true }
def PeopleMergeKeepsUptoSaid : Prop := peopleMergeKeepsUptoRow.holds Tryd.pinned (OpenSpec.upto peopleMergeKeepsSpec)

end Rows
end Go.Proofs.YtdmcopjbckelmaaDoor
