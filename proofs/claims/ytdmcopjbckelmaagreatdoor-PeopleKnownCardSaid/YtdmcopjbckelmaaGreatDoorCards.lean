/-
  DERIVED. GIVEN WITH THE SEED: THE CARDS: each row of YtdmcopjbckelmaaGreatDoorRows.lean that lists a variable, with what it lists TIED to the program's text (the seventh form; the later family's looks); each row that meets fmt, with fmt's text TOLD by the authors' own Lean function (tested against real Go, not proved from fmt's source: count such statements apart). THE CARD IS WHAT COUNTS. Prove the row's statement (the work); the ties are given (YtdmcopjbckelmaaGreatDoorTie.lean); close each card by the builder's one call (the guide's Derived/Test/ToyasCard.lean, 'card_holds'). Laid BY PROGRAM, IN A SANDBOX (cutbox-door.mjs). By AI agents, Wed Nov 11 2026. No macro, syntax, notation, axiom, sorry.
-/
import Derived.Test.YtdmcopjbckelmaaGreatDoorRows
import GoSem.ClaimSeven
namespace Go.Proofs.YtdmcopjbckelmaaGreatDoor
namespace Rows

/-- THE TIED CARD OF 'bullalaw10.PeopleHeirsShare'. -/
def peopleHeirsShareCard : Claim7 := { stood := { row := peopleHeirsShareRow, standIns := [], harness := (true, "fc9df83ae5ae594bf27bb4da61373a51c620c849ebaf90019e4fb7ebb6289732"), looks := false }, kinds := [], alts := [], laidByText := true, laidKinds := [.data], laidTests := true, laidLooks := .later }
def PeopleHeirsShareCardSaid : Prop := Claim7.holds Tryz.pinned (.plain (OpenSpec.ofChange peopleHeirsShareSpec)) peopleHeirsShareCard

/-- THE TIED CARD OF 'bullalaw10.PeopleDeedsMeet'. -/
def peopleDeedsMeetCard : Claim7 := { stood := { row := peopleDeedsMeetRow, standIns := [], harness := (true, "fc9df83ae5ae594bf27bb4da61373a51c620c849ebaf90019e4fb7ebb6289732"), looks := false }, kinds := [], alts := [], laidByText := true, laidKinds := [.data], laidTests := true, laidLooks := .later }
def PeopleDeedsMeetCardSaid : Prop := Claim7.holds Tryz.pinned (.plain (OpenSpec.ofChange peopleDeedsMeetSpec)) peopleDeedsMeetCard

/-- THE TIED CARD OF 'bullalaw10.PeopleFactsContrary'. -/
def peopleFactsContraryCard : Claim7 := { stood := { row := peopleFactsContraryRow, standIns := [], harness := (true, "fc9df83ae5ae594bf27bb4da61373a51c620c849ebaf90019e4fb7ebb6289732"), looks := false }, kinds := [], alts := [], laidByText := true, laidKinds := [.data], laidTests := true, laidLooks := .later }
def PeopleFactsContraryCardSaid : Prop := Claim7.holds Tryz.pinned (.plain (OpenSpec.ofChange peopleFactsContrarySpec)) peopleFactsContraryCard

/-- THE TIED CARD OF 'bullalaw10.PeopleKinFinds'. -/
def peopleKinFindsCard : Claim7 := { stood := { row := peopleKinFindsRow, standIns := [], harness := (true, "fc9df83ae5ae594bf27bb4da61373a51c620c849ebaf90019e4fb7ebb6289732"), looks := false }, kinds := [], alts := [], laidByText := true, laidKinds := [.data], laidTests := true, laidLooks := .later }
def PeopleKinFindsCardSaid : Prop := Claim7.holds Tryz.pinned (.plain (OpenSpec.ofChange peopleKinFindsSpec)) peopleKinFindsCard

/-- THE TIED CARD OF 'bullalaw10.PeopleDeedsLive'. -/
def peopleDeedsLiveCard : Claim7 := { stood := { row := peopleDeedsLiveRow, standIns := [], harness := (true, "fc9df83ae5ae594bf27bb4da61373a51c620c849ebaf90019e4fb7ebb6289732"), looks := false }, kinds := [], alts := [], laidByText := true, laidKinds := [.data], laidTests := true, laidLooks := .later }
def PeopleDeedsLiveCardSaid : Prop := Claim7.holds Tryz.pinned (.plain (OpenSpec.ofChange peopleDeedsLiveSpec)) peopleDeedsLiveCard

/-- THE TIED CARD OF 'bullalaw10.PeopleMerge'. -/
def peopleMergeCard : Claim7 := { stood := { row := peopleMergeRow, standIns := [], harness := (true, "fc9df83ae5ae594bf27bb4da61373a51c620c849ebaf90019e4fb7ebb6289732"), looks := false }, kinds := [], alts := [], laidByText := true, laidKinds := [.data], laidTests := true, laidLooks := .later }
def PeopleMergeCardSaid : Prop := Claim7.holds Tryz.pinned (.plain (OpenSpec.ofChange peopleMergeSpec)) peopleMergeCard

/-- THE TIED CARD OF 'bullalaw10.PeopleDeedsCheck'. -/
def peopleDeedsCheckCard : Claim7 := { stood := { row := peopleDeedsCheckRow, standIns := [], harness := (true, "fc9df83ae5ae594bf27bb4da61373a51c620c849ebaf90019e4fb7ebb6289732"), looks := false }, kinds := [], alts := [], laidByText := true, laidKinds := [.data], laidTests := true, laidLooks := .later }
def PeopleDeedsCheckCardSaid : Prop := Claim7.holds Tryz.pinned (.plain (OpenSpec.ofChange peopleDeedsCheckSpec)) peopleDeedsCheckCard

/-- THE TIED CARD OF 'bullalaw10.PeopleKnown'. -/
def peopleKnownCard : Claim7 := { stood := { row := peopleKnownRow, standIns := [], harness := (true, "fc9df83ae5ae594bf27bb4da61373a51c620c849ebaf90019e4fb7ebb6289732"), looks := false }, kinds := [], alts := [], laidByText := true, laidKinds := [.data], laidTests := true, laidLooks := .later }
def PeopleKnownCardSaid : Prop := Claim7.holds Tryz.pinned (.plain (OpenSpec.ofChange peopleKnownSpec)) peopleKnownCard

/-- THE SECOND FORM's CARD OF 'bullalaw10.PeopleHeirsShare'. -/
def peopleHeirsShareUptoCard : Claim7 := { stood := { row := peopleHeirsShareUptoRow, standIns := [], harness := (true, "fc9df83ae5ae594bf27bb4da61373a51c620c849ebaf90019e4fb7ebb6289732"), looks := false }, kinds := [], alts := [], laidByText := true, laidKinds := [.data], laidTests := true, laidLooks := .later }
def PeopleHeirsShareUptoCardSaid : Prop := Claim7.holds Tryz.pinned (.plain (OpenSpec.upto peopleHeirsShareSpec)) peopleHeirsShareUptoCard

/-- THE SECOND FORM's CARD OF 'bullalaw10.PeopleDeedsMeet'. -/
def peopleDeedsMeetUptoCard : Claim7 := { stood := { row := peopleDeedsMeetUptoRow, standIns := [], harness := (true, "fc9df83ae5ae594bf27bb4da61373a51c620c849ebaf90019e4fb7ebb6289732"), looks := false }, kinds := [], alts := [], laidByText := true, laidKinds := [.data], laidTests := true, laidLooks := .later }
def PeopleDeedsMeetUptoCardSaid : Prop := Claim7.holds Tryz.pinned (.plain (OpenSpec.upto peopleDeedsMeetSpec)) peopleDeedsMeetUptoCard

/-- THE SECOND FORM's CARD OF 'bullalaw10.PeopleFactsContrary'. -/
def peopleFactsContraryUptoCard : Claim7 := { stood := { row := peopleFactsContraryUptoRow, standIns := [], harness := (true, "fc9df83ae5ae594bf27bb4da61373a51c620c849ebaf90019e4fb7ebb6289732"), looks := false }, kinds := [], alts := [], laidByText := true, laidKinds := [.data], laidTests := true, laidLooks := .later }
def PeopleFactsContraryUptoCardSaid : Prop := Claim7.holds Tryz.pinned (.plain (OpenSpec.upto peopleFactsContrarySpec)) peopleFactsContraryUptoCard

/-- THE SECOND FORM's CARD OF 'bullalaw10.PeopleKinFinds'. -/
def peopleKinFindsUptoCard : Claim7 := { stood := { row := peopleKinFindsUptoRow, standIns := [], harness := (true, "fc9df83ae5ae594bf27bb4da61373a51c620c849ebaf90019e4fb7ebb6289732"), looks := false }, kinds := [], alts := [], laidByText := true, laidKinds := [.data], laidTests := true, laidLooks := .later }
def PeopleKinFindsUptoCardSaid : Prop := Claim7.holds Tryz.pinned (.plain (OpenSpec.upto peopleKinFindsSpec)) peopleKinFindsUptoCard

/-- THE SECOND FORM's CARD OF 'bullalaw10.PeopleDeedsLive'. -/
def peopleDeedsLiveUptoCard : Claim7 := { stood := { row := peopleDeedsLiveUptoRow, standIns := [], harness := (true, "fc9df83ae5ae594bf27bb4da61373a51c620c849ebaf90019e4fb7ebb6289732"), looks := false }, kinds := [], alts := [], laidByText := true, laidKinds := [.data], laidTests := true, laidLooks := .later }
def PeopleDeedsLiveUptoCardSaid : Prop := Claim7.holds Tryz.pinned (.plain (OpenSpec.upto peopleDeedsLiveSpec)) peopleDeedsLiveUptoCard

/-- THE SECOND FORM's CARD OF 'bullalaw10.PeopleMerge'. -/
def peopleMergeUptoCard : Claim7 := { stood := { row := peopleMergeUptoRow, standIns := [], harness := (true, "fc9df83ae5ae594bf27bb4da61373a51c620c849ebaf90019e4fb7ebb6289732"), looks := false }, kinds := [], alts := [], laidByText := true, laidKinds := [.data], laidTests := true, laidLooks := .later }
def PeopleMergeUptoCardSaid : Prop := Claim7.holds Tryz.pinned (.plain (OpenSpec.upto peopleMergeSpec)) peopleMergeUptoCard

/-- THE SECOND FORM's CARD OF 'bullalaw10.PeopleDeedsCheck'. -/
def peopleDeedsCheckUptoCard : Claim7 := { stood := { row := peopleDeedsCheckUptoRow, standIns := [], harness := (true, "fc9df83ae5ae594bf27bb4da61373a51c620c849ebaf90019e4fb7ebb6289732"), looks := false }, kinds := [], alts := [], laidByText := true, laidKinds := [.data], laidTests := true, laidLooks := .later }
def PeopleDeedsCheckUptoCardSaid : Prop := Claim7.holds Tryz.pinned (.plain (OpenSpec.upto peopleDeedsCheckSpec)) peopleDeedsCheckUptoCard

/-- THE SECOND FORM's CARD OF 'bullalaw10.PeopleKnown'. -/
def peopleKnownUptoCard : Claim7 := { stood := { row := peopleKnownUptoRow, standIns := [], harness := (true, "fc9df83ae5ae594bf27bb4da61373a51c620c849ebaf90019e4fb7ebb6289732"), looks := false }, kinds := [], alts := [], laidByText := true, laidKinds := [.data], laidTests := true, laidLooks := .later }
def PeopleKnownUptoCardSaid : Prop := Claim7.holds Tryz.pinned (.plain (OpenSpec.upto peopleKnownSpec)) peopleKnownUptoCard
end Rows
end Go.Proofs.YtdmcopjbckelmaaGreatDoor
