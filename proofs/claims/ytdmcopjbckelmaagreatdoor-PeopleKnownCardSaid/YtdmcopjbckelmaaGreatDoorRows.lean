/-
  NARROWER THAN 'FOR EVERY INPUT', by the rows' own cells (each row's printed sentence says how): PeopleHeirsShare: laid · PeopleDeedsMeet: laid · PeopleFactsContrary: laid · PeopleKinFinds: laid · PeopleDeedsLive: laid · PeopleMerge: laid · PeopleDeedsCheck: laid · PeopleKnown: laid.
  DERIVED. THE GIVEN ROWS OF THIS SEAT. 8 by the template 'for every input the law returns true; each argument reads behind the call as it read before'; 0 by the template 'total and deterministic' (their statements: YtdmcopjbckelmaaGreatDoorTotals.lean).
  GIVEN WITH THE SEED: the statements are not yours to turn. If you find one false, say at which input.
  Laid BY PROGRAM, IN A SANDBOX (cutbox-rows.mjs): the forced cells as the released guide's own fill.sh prints them over the translation 50917993c4ff02f8… (all of the seat's roots in one cut). By AI agents, Wed Nov 11 2026. No macro, syntax, notation, axiom, sorry.
-/
import Derived.Test.YtdmcopjbckelmaaGreatDoorChecked
import GoSem.Claim
import GoSem.ClaimJoined
import GoSem.ClaimMapViews
import Derived.JoinedTies
import Derived.KernelRfl
namespace Go.Proofs.YtdmcopjbckelmaaGreatDoor
/- THE CELL 'sum', in the pinned program and in every row, IS THE sha256 OF THE DUMP (.gsa) THAT YtdmcopjbckelmaaGreatDoorProg.lean LOADS. Nothing in Lean hashes anything: it is a label: what it is worth is what the hold of that sum in a sandbox is worth. -/
noncomputable def Tryz.pinned : Pinned := { name := "ytdmcopjbckelmaagreatdoor", sum := "50917993c4ff02f8e3e78b45723eb1804dd2d9a0dc993b550c99a6e986d651da", checked := Tryz.checked }
namespace Rows
def none {H : Type} : Left H := { results := [], args := [] }

/- WHAT THE LISTED PACKAGE-LEVEL VARIABLES READ AS WHEN THE CALL BEGINS. Each datum BY PROGRAM (the guide's laid-datum.mjs) off the statement by which the dump's own 'gosem.cut.vars' lays the variable. In a bare row this is a premise. The card (YtdmcopjbckelmaaGreatDoorCards.lean) ties it to the program's text. -/
def laid_bulla_metro_zero {H : Type} : DataW H := .agg [.lit (.int .i64 0), .lit (.int .i64 1)]

/-- 'bullalaw10.PeopleHeirsShare': WHATEVER THE INPUT: true; the input reads as it did. -/
def peopleHeirsShareSpec : ChangeSpec := { name := "peopleHeirsShare", fn := fun _ => fun
  | [d1, d2] => { results := [.lit (.bool true)], args := [d1, d2] }
  | _ => none }
def peopleHeirsShareRow : OpenClaim := { program := "ytdmcopjbckelmaagreatdoor", sum := "50917993c4ff02f8e3e78b45723eb1804dd2d9a0dc993b550c99a6e986d651da", func := "bulla/bullalaw10.PeopleHeirsShare", spec := "peopleHeirsShare", unfollowed := true, recurses := true, named := ["bulla/metro.zero"], plainKeys := false, apart := false, laid := [("bulla/metro.zero", laid_bulla_metro_zero)] }
def PeopleHeirsShareSaid : Prop := peopleHeirsShareRow.holds Tryz.pinned (OpenSpec.ofChange peopleHeirsShareSpec)

/-- ITS FALSE NEIGHBOUR: 'it returns false'. Refute it at one input. -/
def peopleHeirsShareWrong : ChangeSpec := { name := "peopleHeirsShare", fn := fun _ => fun
  | [d1, d2] => { results := [.lit (.bool false)], args := [d1, d2] }
  | _ => none }
def PeopleHeirsShareWrongFalsely : Prop := peopleHeirsShareRow.holds Tryz.pinned (OpenSpec.ofChange peopleHeirsShareWrong)

/-- 'bullalaw10.PeopleDeedsMeet': WHATEVER THE INPUT: true; the input reads as it did. -/
def peopleDeedsMeetSpec : ChangeSpec := { name := "peopleDeedsMeet", fn := fun _ => fun
  | [d1, d2, d3] => { results := [.lit (.bool true)], args := [d1, d2, d3] }
  | _ => none }
def peopleDeedsMeetRow : OpenClaim := { program := "ytdmcopjbckelmaagreatdoor", sum := "50917993c4ff02f8e3e78b45723eb1804dd2d9a0dc993b550c99a6e986d651da", func := "bulla/bullalaw10.PeopleDeedsMeet", spec := "peopleDeedsMeet", unfollowed := true, recurses := true, named := ["bulla/metro.zero"], plainKeys := false, apart := false, laid := [("bulla/metro.zero", laid_bulla_metro_zero)] }
def PeopleDeedsMeetSaid : Prop := peopleDeedsMeetRow.holds Tryz.pinned (OpenSpec.ofChange peopleDeedsMeetSpec)

/-- ITS FALSE NEIGHBOUR: 'it returns false'. Refute it at one input. -/
def peopleDeedsMeetWrong : ChangeSpec := { name := "peopleDeedsMeet", fn := fun _ => fun
  | [d1, d2, d3] => { results := [.lit (.bool false)], args := [d1, d2, d3] }
  | _ => none }
def PeopleDeedsMeetWrongFalsely : Prop := peopleDeedsMeetRow.holds Tryz.pinned (OpenSpec.ofChange peopleDeedsMeetWrong)

/-- 'bullalaw10.PeopleFactsContrary': WHATEVER THE INPUT: true; the input reads as it did. -/
def peopleFactsContrarySpec : ChangeSpec := { name := "peopleFactsContrary", fn := fun _ => fun
  | [d1, d2, d3] => { results := [.lit (.bool true)], args := [d1, d2, d3] }
  | _ => none }
def peopleFactsContraryRow : OpenClaim := { program := "ytdmcopjbckelmaagreatdoor", sum := "50917993c4ff02f8e3e78b45723eb1804dd2d9a0dc993b550c99a6e986d651da", func := "bulla/bullalaw10.PeopleFactsContrary", spec := "peopleFactsContrary", unfollowed := true, recurses := true, named := ["bulla/metro.zero"], plainKeys := false, apart := false, laid := [("bulla/metro.zero", laid_bulla_metro_zero)] }
def PeopleFactsContrarySaid : Prop := peopleFactsContraryRow.holds Tryz.pinned (OpenSpec.ofChange peopleFactsContrarySpec)

/-- ITS FALSE NEIGHBOUR: 'it returns false'. Refute it at one input. -/
def peopleFactsContraryWrong : ChangeSpec := { name := "peopleFactsContrary", fn := fun _ => fun
  | [d1, d2, d3] => { results := [.lit (.bool false)], args := [d1, d2, d3] }
  | _ => none }
def PeopleFactsContraryWrongFalsely : Prop := peopleFactsContraryRow.holds Tryz.pinned (OpenSpec.ofChange peopleFactsContraryWrong)

/-- 'bullalaw10.PeopleKinFinds': WHATEVER THE INPUT: true; the input reads as it did. -/
def peopleKinFindsSpec : ChangeSpec := { name := "peopleKinFinds", fn := fun _ => fun
  | [d1, d2, d3] => { results := [.lit (.bool true)], args := [d1, d2, d3] }
  | _ => none }
def peopleKinFindsRow : OpenClaim := { program := "ytdmcopjbckelmaagreatdoor", sum := "50917993c4ff02f8e3e78b45723eb1804dd2d9a0dc993b550c99a6e986d651da", func := "bulla/bullalaw10.PeopleKinFinds", spec := "peopleKinFinds", unfollowed := true, recurses := true, named := ["bulla/metro.zero"], plainKeys := false, apart := false, laid := [("bulla/metro.zero", laid_bulla_metro_zero)] }
def PeopleKinFindsSaid : Prop := peopleKinFindsRow.holds Tryz.pinned (OpenSpec.ofChange peopleKinFindsSpec)

/-- ITS FALSE NEIGHBOUR: 'it returns false'. Refute it at one input. -/
def peopleKinFindsWrong : ChangeSpec := { name := "peopleKinFinds", fn := fun _ => fun
  | [d1, d2, d3] => { results := [.lit (.bool false)], args := [d1, d2, d3] }
  | _ => none }
def PeopleKinFindsWrongFalsely : Prop := peopleKinFindsRow.holds Tryz.pinned (OpenSpec.ofChange peopleKinFindsWrong)

/-- 'bullalaw10.PeopleDeedsLive': WHATEVER THE INPUT: true; the input reads as it did. -/
def peopleDeedsLiveSpec : ChangeSpec := { name := "peopleDeedsLive", fn := fun _ => fun
  | [d] => { results := [.lit (.bool true)], args := [d] }
  | _ => none }
def peopleDeedsLiveRow : OpenClaim := { program := "ytdmcopjbckelmaagreatdoor", sum := "50917993c4ff02f8e3e78b45723eb1804dd2d9a0dc993b550c99a6e986d651da", func := "bulla/bullalaw10.PeopleDeedsLive", spec := "peopleDeedsLive", unfollowed := true, recurses := true, named := ["bulla/metro.zero"], plainKeys := false, apart := false, laid := [("bulla/metro.zero", laid_bulla_metro_zero)] }
def PeopleDeedsLiveSaid : Prop := peopleDeedsLiveRow.holds Tryz.pinned (OpenSpec.ofChange peopleDeedsLiveSpec)

/-- ITS FALSE NEIGHBOUR: 'it returns false'. Refute it at one input. -/
def peopleDeedsLiveWrong : ChangeSpec := { name := "peopleDeedsLive", fn := fun _ => fun
  | [d] => { results := [.lit (.bool false)], args := [d] }
  | _ => none }
def PeopleDeedsLiveWrongFalsely : Prop := peopleDeedsLiveRow.holds Tryz.pinned (OpenSpec.ofChange peopleDeedsLiveWrong)

/-- 'bullalaw10.PeopleMerge': WHATEVER THE INPUT: true; the input reads as it did. -/
def peopleMergeSpec : ChangeSpec := { name := "peopleMerge", fn := fun _ => fun
  | [d1, d2, d3] => { results := [.lit (.bool true)], args := [d1, d2, d3] }
  | _ => none }
def peopleMergeRow : OpenClaim := { program := "ytdmcopjbckelmaagreatdoor", sum := "50917993c4ff02f8e3e78b45723eb1804dd2d9a0dc993b550c99a6e986d651da", func := "bulla/bullalaw10.PeopleMerge", spec := "peopleMerge", unfollowed := true, recurses := true, named := ["bulla/metro.zero"], plainKeys := false, apart := false, laid := [("bulla/metro.zero", laid_bulla_metro_zero)] }
def PeopleMergeSaid : Prop := peopleMergeRow.holds Tryz.pinned (OpenSpec.ofChange peopleMergeSpec)

/-- ITS FALSE NEIGHBOUR: 'it returns false'. Refute it at one input. -/
def peopleMergeWrong : ChangeSpec := { name := "peopleMerge", fn := fun _ => fun
  | [d1, d2, d3] => { results := [.lit (.bool false)], args := [d1, d2, d3] }
  | _ => none }
def PeopleMergeWrongFalsely : Prop := peopleMergeRow.holds Tryz.pinned (OpenSpec.ofChange peopleMergeWrong)

/-- 'bullalaw10.PeopleDeedsCheck': WHATEVER THE INPUT: true; the input reads as it did. -/
def peopleDeedsCheckSpec : ChangeSpec := { name := "peopleDeedsCheck", fn := fun _ => fun
  | [d] => { results := [.lit (.bool true)], args := [d] }
  | _ => none }
def peopleDeedsCheckRow : OpenClaim := { program := "ytdmcopjbckelmaagreatdoor", sum := "50917993c4ff02f8e3e78b45723eb1804dd2d9a0dc993b550c99a6e986d651da", func := "bulla/bullalaw10.PeopleDeedsCheck", spec := "peopleDeedsCheck", unfollowed := true, recurses := true, named := ["bulla/metro.zero"], plainKeys := false, apart := false, laid := [("bulla/metro.zero", laid_bulla_metro_zero)] }
def PeopleDeedsCheckSaid : Prop := peopleDeedsCheckRow.holds Tryz.pinned (OpenSpec.ofChange peopleDeedsCheckSpec)

/-- ITS FALSE NEIGHBOUR: 'it returns false'. Refute it at one input. -/
def peopleDeedsCheckWrong : ChangeSpec := { name := "peopleDeedsCheck", fn := fun _ => fun
  | [d] => { results := [.lit (.bool false)], args := [d] }
  | _ => none }
def PeopleDeedsCheckWrongFalsely : Prop := peopleDeedsCheckRow.holds Tryz.pinned (OpenSpec.ofChange peopleDeedsCheckWrong)

/-- 'bullalaw10.PeopleKnown': WHATEVER THE INPUT: true; the input reads as it did. -/
def peopleKnownSpec : ChangeSpec := { name := "peopleKnown", fn := fun _ => fun
  | [] => { results := [.lit (.bool true)], args := [] }
  | _ => none }
def peopleKnownRow : OpenClaim := { program := "ytdmcopjbckelmaagreatdoor", sum := "50917993c4ff02f8e3e78b45723eb1804dd2d9a0dc993b550c99a6e986d651da", func := "bulla/bullalaw10.PeopleKnown", spec := "peopleKnown", unfollowed := true, recurses := true, named := ["bulla/metro.zero"], plainKeys := false, apart := false, laid := [("bulla/metro.zero", laid_bulla_metro_zero)] }
def PeopleKnownSaid : Prop := peopleKnownRow.holds Tryz.pinned (OpenSpec.ofChange peopleKnownSpec)

/-- ITS FALSE NEIGHBOUR: 'it returns false'. Refute it at one input. -/
def peopleKnownWrong : ChangeSpec := { name := "peopleKnown", fn := fun _ => fun
  | [] => { results := [.lit (.bool false)], args := [] }
  | _ => none }
def PeopleKnownWrongFalsely : Prop := peopleKnownRow.holds Tryz.pinned (OpenSpec.ofChange peopleKnownWrong)

/- THE SECOND FORM. 'bulk': how many values and letters a reading holds, each counted each time it is reached (what is shared counts as often as it is met; a slice's spare places count too). A statement '..UptoSaid' is the law's where the arguments, and the package variables that the reading takes, are together of bulk at most 1048576: NARROWER than '..Said'. Prove '..Said' where nothing that the law and all that it calls make is longer than what came in: it says more and counts as full. Else prove '..UptoSaid'. A law counts once. -/
mutual
def uptoBulk {H : Type} : DataW H → Nat
  | .lit (.string bytes) => bytes.length + 1
  | .lit _ => 1
  | .nil => 1
  | .ptr d => uptoBulk d + 1
  | .slice elems spare => uptoBulkAll elems + uptoBulkAll spare + 1
  | .agg parts => uptoBulkAll parts + 1
  | .iface _ d => uptoBulk d + 1
  | .map entries => uptoBulkEntries entries + 1
  | .held _ => 1
def uptoBulkAll {H : Type} : List (DataW H) → Nat
  | [] => 0
  | d :: r => uptoBulk d + uptoBulkAll r
def uptoBulkEntries {H : Type} : List (Lit × DataW H) → Nat
  | [] => 0
  | x :: r => uptoBulkEntry x + uptoBulkEntries r
def uptoBulkEntry {H : Type} : Lit × DataW H → Nat
  | (.string bytes, d) => bytes.length + uptoBulk d + 1
  | (_, d) => uptoBulk d + 1
 end
def uptoSmall : (H : Type) → List (DataW H) → Bool := fun _ ds => decide (uptoBulkAll ds ≤ 1048576)
def OpenSpec.upto (s : _root_.Go.ChangeSpec) : _root_.Go.OpenSpec := { _root_.Go.OpenSpec.ofChange s with cond := some uptoSmall }

/-- 'bullalaw10.PeopleHeirsShare', WHERE WHAT IT READS IS OF BULK AT MOST 1048576: true; the input reads as it did. -/
def peopleHeirsShareUptoRow : OpenClaim := { program := "ytdmcopjbckelmaagreatdoor", sum := "50917993c4ff02f8e3e78b45723eb1804dd2d9a0dc993b550c99a6e986d651da", func := "bulla/bullalaw10.PeopleHeirsShare", spec := "peopleHeirsShare", unfollowed := true, recurses := true, named := ["bulla/metro.zero"], plainKeys := false, apart := false, laid := [("bulla/metro.zero", laid_bulla_metro_zero)], narrowed := true }
def PeopleHeirsShareUptoSaid : Prop := peopleHeirsShareUptoRow.holds Tryz.pinned (OpenSpec.upto peopleHeirsShareSpec)

/-- 'bullalaw10.PeopleDeedsMeet', WHERE WHAT IT READS IS OF BULK AT MOST 1048576: true; the input reads as it did. -/
def peopleDeedsMeetUptoRow : OpenClaim := { program := "ytdmcopjbckelmaagreatdoor", sum := "50917993c4ff02f8e3e78b45723eb1804dd2d9a0dc993b550c99a6e986d651da", func := "bulla/bullalaw10.PeopleDeedsMeet", spec := "peopleDeedsMeet", unfollowed := true, recurses := true, named := ["bulla/metro.zero"], plainKeys := false, apart := false, laid := [("bulla/metro.zero", laid_bulla_metro_zero)], narrowed := true }
def PeopleDeedsMeetUptoSaid : Prop := peopleDeedsMeetUptoRow.holds Tryz.pinned (OpenSpec.upto peopleDeedsMeetSpec)

/-- 'bullalaw10.PeopleFactsContrary', WHERE WHAT IT READS IS OF BULK AT MOST 1048576: true; the input reads as it did. -/
def peopleFactsContraryUptoRow : OpenClaim := { program := "ytdmcopjbckelmaagreatdoor", sum := "50917993c4ff02f8e3e78b45723eb1804dd2d9a0dc993b550c99a6e986d651da", func := "bulla/bullalaw10.PeopleFactsContrary", spec := "peopleFactsContrary", unfollowed := true, recurses := true, named := ["bulla/metro.zero"], plainKeys := false, apart := false, laid := [("bulla/metro.zero", laid_bulla_metro_zero)], narrowed := true }
def PeopleFactsContraryUptoSaid : Prop := peopleFactsContraryUptoRow.holds Tryz.pinned (OpenSpec.upto peopleFactsContrarySpec)

/-- 'bullalaw10.PeopleKinFinds', WHERE WHAT IT READS IS OF BULK AT MOST 1048576: true; the input reads as it did. -/
def peopleKinFindsUptoRow : OpenClaim := { program := "ytdmcopjbckelmaagreatdoor", sum := "50917993c4ff02f8e3e78b45723eb1804dd2d9a0dc993b550c99a6e986d651da", func := "bulla/bullalaw10.PeopleKinFinds", spec := "peopleKinFinds", unfollowed := true, recurses := true, named := ["bulla/metro.zero"], plainKeys := false, apart := false, laid := [("bulla/metro.zero", laid_bulla_metro_zero)], narrowed := true }
def PeopleKinFindsUptoSaid : Prop := peopleKinFindsUptoRow.holds Tryz.pinned (OpenSpec.upto peopleKinFindsSpec)

/-- 'bullalaw10.PeopleDeedsLive', WHERE WHAT IT READS IS OF BULK AT MOST 1048576: true; the input reads as it did. -/
def peopleDeedsLiveUptoRow : OpenClaim := { program := "ytdmcopjbckelmaagreatdoor", sum := "50917993c4ff02f8e3e78b45723eb1804dd2d9a0dc993b550c99a6e986d651da", func := "bulla/bullalaw10.PeopleDeedsLive", spec := "peopleDeedsLive", unfollowed := true, recurses := true, named := ["bulla/metro.zero"], plainKeys := false, apart := false, laid := [("bulla/metro.zero", laid_bulla_metro_zero)], narrowed := true }
def PeopleDeedsLiveUptoSaid : Prop := peopleDeedsLiveUptoRow.holds Tryz.pinned (OpenSpec.upto peopleDeedsLiveSpec)

/-- 'bullalaw10.PeopleMerge', WHERE WHAT IT READS IS OF BULK AT MOST 1048576: true; the input reads as it did. -/
def peopleMergeUptoRow : OpenClaim := { program := "ytdmcopjbckelmaagreatdoor", sum := "50917993c4ff02f8e3e78b45723eb1804dd2d9a0dc993b550c99a6e986d651da", func := "bulla/bullalaw10.PeopleMerge", spec := "peopleMerge", unfollowed := true, recurses := true, named := ["bulla/metro.zero"], plainKeys := false, apart := false, laid := [("bulla/metro.zero", laid_bulla_metro_zero)], narrowed := true }
def PeopleMergeUptoSaid : Prop := peopleMergeUptoRow.holds Tryz.pinned (OpenSpec.upto peopleMergeSpec)

/-- 'bullalaw10.PeopleDeedsCheck', WHERE WHAT IT READS IS OF BULK AT MOST 1048576: true; the input reads as it did. -/
def peopleDeedsCheckUptoRow : OpenClaim := { program := "ytdmcopjbckelmaagreatdoor", sum := "50917993c4ff02f8e3e78b45723eb1804dd2d9a0dc993b550c99a6e986d651da", func := "bulla/bullalaw10.PeopleDeedsCheck", spec := "peopleDeedsCheck", unfollowed := true, recurses := true, named := ["bulla/metro.zero"], plainKeys := false, apart := false, laid := [("bulla/metro.zero", laid_bulla_metro_zero)], narrowed := true }
def PeopleDeedsCheckUptoSaid : Prop := peopleDeedsCheckUptoRow.holds Tryz.pinned (OpenSpec.upto peopleDeedsCheckSpec)

/-- 'bullalaw10.PeopleKnown', WHERE WHAT IT READS IS OF BULK AT MOST 1048576: true; the input reads as it did. -/
def peopleKnownUptoRow : OpenClaim := { program := "ytdmcopjbckelmaagreatdoor", sum := "50917993c4ff02f8e3e78b45723eb1804dd2d9a0dc993b550c99a6e986d651da", func := "bulla/bullalaw10.PeopleKnown", spec := "peopleKnown", unfollowed := true, recurses := true, named := ["bulla/metro.zero"], plainKeys := false, apart := false, laid := [("bulla/metro.zero", laid_bulla_metro_zero)], narrowed := true }
def PeopleKnownUptoSaid : Prop := peopleKnownUptoRow.holds Tryz.pinned (OpenSpec.upto peopleKnownSpec)

end Rows
end Go.Proofs.YtdmcopjbckelmaaGreatDoor
