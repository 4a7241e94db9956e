/-
  DERIVED. GIVEN WITH THE SEED: THE CARDS: each row of YtdmcopjbckelmaaDoorRows.lean that lists a variable, with what it lists TIED to the program's text (the seventh form; the later family's looks); each row that meets fmt, with fmt's text TOLD by the authors' own Lean function (tested against real Go, not proved from fmt's source: count such statements apart). THE CARD IS WHAT COUNTS. Prove the row's statement (the work); the ties are given (YtdmcopjbckelmaaDoorTie.lean); close each card by the builder's one call (the guide's Derived/Test/ToyasCard.lean, 'card_holds'). Laid BY PROGRAM, IN A SANDBOX (cutbox-door.mjs). By AI agents, Wed Nov 11 2026. No macro, syntax, notation, axiom, sorry.
-/
import Derived.Test.YtdmcopjbckelmaaDoorRows
import GoSem.ClaimSeven
namespace Go.Proofs.YtdmcopjbckelmaaDoor
namespace Rows

/-- THE TIED CARD OF 'bullalaw10.PeopleChecks'. -/
def peopleChecksCard : Claim7 := { stood := { row := peopleChecksRow, standIns := [], harness := (true, "4764b70f8623470a50b7ce1acf80ec698c3f3e3bb83f6c5d10683b75cb259304"), looks := false }, kinds := [], alts := [], laidByText := true, laidKinds := [.data], laidTests := true, laidLooks := .later }
def PeopleChecksCardSaid : Prop := Claim7.holds Tryd.pinned (.plain (OpenSpec.ofChange peopleChecksSpec)) peopleChecksCard

/-- THE TIED CARD OF 'bullalaw10.PeopleFactsMay'. -/
def peopleFactsMayCard : Claim7 := { stood := { row := peopleFactsMayRow, standIns := [], harness := (true, "4764b70f8623470a50b7ce1acf80ec698c3f3e3bb83f6c5d10683b75cb259304"), looks := false }, kinds := [], alts := [], laidByText := true, laidKinds := [.data], laidTests := true, laidLooks := .later }
def PeopleFactsMayCardSaid : Prop := Claim7.holds Tryd.pinned (.plain (OpenSpec.ofChange peopleFactsMaySpec)) peopleFactsMayCard

/-- THE TIED CARD OF 'bullalaw10.PeopleLivesSolve'. -/
def peopleLivesSolveCard : Claim7 := { stood := { row := peopleLivesSolveRow, standIns := [], harness := (true, "4764b70f8623470a50b7ce1acf80ec698c3f3e3bb83f6c5d10683b75cb259304"), looks := false }, kinds := [], alts := [], laidByText := true, laidKinds := [.data], laidTests := true, laidLooks := .later }
def PeopleLivesSolveCardSaid : Prop := Claim7.holds Tryd.pinned (.plain (OpenSpec.ofChange peopleLivesSolveSpec)) peopleLivesSolveCard

/-- THE TIED CARD OF 'bullalaw10.PeopleFactsNarrow'. -/
def peopleFactsNarrowCard : Claim7 := { stood := { row := peopleFactsNarrowRow, standIns := [], harness := (true, "4764b70f8623470a50b7ce1acf80ec698c3f3e3bb83f6c5d10683b75cb259304"), looks := false }, kinds := [], alts := [], laidByText := true, laidKinds := [.data], laidTests := true, laidLooks := .later }
def PeopleFactsNarrowCardSaid : Prop := Claim7.holds Tryd.pinned (.plain (OpenSpec.ofChange peopleFactsNarrowSpec)) peopleFactsNarrowCard

/-- THE TIED CARD OF 'bullalaw10.PeopleMustMay'. -/
def peopleMustMayCard : Claim7 := { stood := { row := peopleMustMayRow, standIns := [], harness := (true, "4764b70f8623470a50b7ce1acf80ec698c3f3e3bb83f6c5d10683b75cb259304"), looks := false }, kinds := [], alts := [], laidByText := true, laidKinds := [.data], laidTests := true, laidLooks := .later }
def PeopleMustMayCardSaid : Prop := Claim7.holds Tryd.pinned (.plain (OpenSpec.ofChange peopleMustMaySpec)) peopleMustMayCard

/-- THE TIED CARD OF 'bullalaw10.PeopleTermNames'. -/
def peopleTermNamesCard : Claim7 := { stood := { row := peopleTermNamesRow, standIns := [], harness := (true, "4764b70f8623470a50b7ce1acf80ec698c3f3e3bb83f6c5d10683b75cb259304"), looks := false }, kinds := [], alts := [], laidByText := true, laidKinds := [.data], laidTests := true, laidLooks := .later }
def PeopleTermNamesCardSaid : Prop := Claim7.holds Tryd.pinned (.plain (OpenSpec.ofChange peopleTermNamesSpec)) peopleTermNamesCard

/-- THE TIED CARD OF 'bullalaw10.PeopleContrarySmallest'. -/
def peopleContrarySmallestCard : Claim7 := { stood := { row := peopleContrarySmallestRow, standIns := [], harness := (true, "4764b70f8623470a50b7ce1acf80ec698c3f3e3bb83f6c5d10683b75cb259304"), looks := false }, kinds := [], alts := [], laidByText := true, laidKinds := [.data], laidTests := true, laidLooks := .later }
def PeopleContrarySmallestCardSaid : Prop := Claim7.holds Tryd.pinned (.plain (OpenSpec.ofChange peopleContrarySmallestSpec)) peopleContrarySmallestCard

/-- THE TIED CARD OF 'bullalaw10.PeopleChainMeets'. -/
def peopleChainMeetsCard : Claim7 := { stood := { row := peopleChainMeetsRow, standIns := [], harness := (true, "4764b70f8623470a50b7ce1acf80ec698c3f3e3bb83f6c5d10683b75cb259304"), looks := false }, kinds := [], alts := [], laidByText := true, laidKinds := [.data], laidTests := true, laidLooks := .later }
def PeopleChainMeetsCardSaid : Prop := Claim7.holds Tryd.pinned (.plain (OpenSpec.ofChange peopleChainMeetsSpec)) peopleChainMeetsCard

/-- THE TIED CARD OF 'bullalaw10.PeopleStepsAdd'. -/
def peopleStepsAddCard : Claim7 := { stood := { row := peopleStepsAddRow, standIns := [], harness := (true, "4764b70f8623470a50b7ce1acf80ec698c3f3e3bb83f6c5d10683b75cb259304"), looks := false }, kinds := [], alts := [], laidByText := true, laidKinds := [.data], laidTests := true, laidLooks := .later }
def PeopleStepsAddCardSaid : Prop := Claim7.holds Tryd.pinned (.plain (OpenSpec.ofChange peopleStepsAddSpec)) peopleStepsAddCard

/-- THE TIED CARD OF 'bullalaw10.PeopleSharesSum'. -/
def peopleSharesSumCard : Claim7 := { stood := { row := peopleSharesSumRow, standIns := [], harness := (true, "4764b70f8623470a50b7ce1acf80ec698c3f3e3bb83f6c5d10683b75cb259304"), looks := false }, kinds := [], alts := [], laidByText := true, laidKinds := [.data], laidTests := true, laidLooks := .later }
def PeopleSharesSumCardSaid : Prop := Claim7.holds Tryd.pinned (.plain (OpenSpec.ofChange peopleSharesSumSpec)) peopleSharesSumCard

/-- THE TIED CARD OF 'bullalaw10.PeopleMergeKeeps'. -/
def peopleMergeKeepsCard : Claim7 := { stood := { row := peopleMergeKeepsRow, standIns := [], harness := (true, "4764b70f8623470a50b7ce1acf80ec698c3f3e3bb83f6c5d10683b75cb259304"), looks := false }, kinds := [], alts := [], laidByText := true, laidKinds := [.data], laidTests := true, laidLooks := .later }
def PeopleMergeKeepsCardSaid : Prop := Claim7.holds Tryd.pinned (.plain (OpenSpec.ofChange peopleMergeKeepsSpec)) peopleMergeKeepsCard

/-- THE SECOND FORM's CARD OF 'bullalaw10.PeopleChecks'. -/
def peopleChecksUptoCard : Claim7 := { stood := { row := peopleChecksUptoRow, standIns := [], harness := (true, "4764b70f8623470a50b7ce1acf80ec698c3f3e3bb83f6c5d10683b75cb259304"), looks := false }, kinds := [], alts := [], laidByText := true, laidKinds := [.data], laidTests := true, laidLooks := .later }
def PeopleChecksUptoCardSaid : Prop := Claim7.holds Tryd.pinned (.plain (OpenSpec.upto peopleChecksSpec)) peopleChecksUptoCard

/-- THE SECOND FORM's CARD OF 'bullalaw10.PeopleFactsMay'. -/
def peopleFactsMayUptoCard : Claim7 := { stood := { row := peopleFactsMayUptoRow, standIns := [], harness := (true, "4764b70f8623470a50b7ce1acf80ec698c3f3e3bb83f6c5d10683b75cb259304"), looks := false }, kinds := [], alts := [], laidByText := true, laidKinds := [.data], laidTests := true, laidLooks := .later }
def PeopleFactsMayUptoCardSaid : Prop := Claim7.holds Tryd.pinned (.plain (OpenSpec.upto peopleFactsMaySpec)) peopleFactsMayUptoCard

/-- THE SECOND FORM's CARD OF 'bullalaw10.PeopleLivesSolve'. -/
def peopleLivesSolveUptoCard : Claim7 := { stood := { row := peopleLivesSolveUptoRow, standIns := [], harness := (true, "4764b70f8623470a50b7ce1acf80ec698c3f3e3bb83f6c5d10683b75cb259304"), looks := false }, kinds := [], alts := [], laidByText := true, laidKinds := [.data], laidTests := true, laidLooks := .later }
def PeopleLivesSolveUptoCardSaid : Prop := Claim7.holds Tryd.pinned (.plain (OpenSpec.upto peopleLivesSolveSpec)) peopleLivesSolveUptoCard

/-- THE SECOND FORM's CARD OF 'bullalaw10.PeopleFactsNarrow'. -/
def peopleFactsNarrowUptoCard : Claim7 := { stood := { row := peopleFactsNarrowUptoRow, standIns := [], harness := (true, "4764b70f8623470a50b7ce1acf80ec698c3f3e3bb83f6c5d10683b75cb259304"), looks := false }, kinds := [], alts := [], laidByText := true, laidKinds := [.data], laidTests := true, laidLooks := .later }
def PeopleFactsNarrowUptoCardSaid : Prop := Claim7.holds Tryd.pinned (.plain (OpenSpec.upto peopleFactsNarrowSpec)) peopleFactsNarrowUptoCard

/-- THE SECOND FORM's CARD OF 'bullalaw10.PeopleMustMay'. -/
def peopleMustMayUptoCard : Claim7 := { stood := { row := peopleMustMayUptoRow, standIns := [], harness := (true, "4764b70f8623470a50b7ce1acf80ec698c3f3e3bb83f6c5d10683b75cb259304"), looks := false }, kinds := [], alts := [], laidByText := true, laidKinds := [.data], laidTests := true, laidLooks := .later }
def PeopleMustMayUptoCardSaid : Prop := Claim7.holds Tryd.pinned (.plain (OpenSpec.upto peopleMustMaySpec)) peopleMustMayUptoCard

/-- THE SECOND FORM's CARD OF 'bullalaw10.PeopleTermNames'. -/
def peopleTermNamesUptoCard : Claim7 := { stood := { row := peopleTermNamesUptoRow, standIns := [], harness := (true, "4764b70f8623470a50b7ce1acf80ec698c3f3e3bb83f6c5d10683b75cb259304"), looks := false }, kinds := [], alts := [], laidByText := true, laidKinds := [.data], laidTests := true, laidLooks := .later }
def PeopleTermNamesUptoCardSaid : Prop := Claim7.holds Tryd.pinned (.plain (OpenSpec.upto peopleTermNamesSpec)) peopleTermNamesUptoCard

/-- THE SECOND FORM's CARD OF 'bullalaw10.PeopleContrarySmallest'. -/
def peopleContrarySmallestUptoCard : Claim7 := { stood := { row := peopleContrarySmallestUptoRow, standIns := [], harness := (true, "4764b70f8623470a50b7ce1acf80ec698c3f3e3bb83f6c5d10683b75cb259304"), looks := false }, kinds := [], alts := [], laidByText := true, laidKinds := [.data], laidTests := true, laidLooks := .later }
def PeopleContrarySmallestUptoCardSaid : Prop := Claim7.holds Tryd.pinned (.plain (OpenSpec.upto peopleContrarySmallestSpec)) peopleContrarySmallestUptoCard

/-- THE SECOND FORM's CARD OF 'bullalaw10.PeopleChainMeets'. -/
def peopleChainMeetsUptoCard : Claim7 := { stood := { row := peopleChainMeetsUptoRow, standIns := [], harness := (true, "4764b70f8623470a50b7ce1acf80ec698c3f3e3bb83f6c5d10683b75cb259304"), looks := false }, kinds := [], alts := [], laidByText := true, laidKinds := [.data], laidTests := true, laidLooks := .later }
def PeopleChainMeetsUptoCardSaid : Prop := Claim7.holds Tryd.pinned (.plain (OpenSpec.upto peopleChainMeetsSpec)) peopleChainMeetsUptoCard

/-- THE SECOND FORM's CARD OF 'bullalaw10.PeopleStepsAdd'. -/
def peopleStepsAddUptoCard : Claim7 := { stood := { row := peopleStepsAddUptoRow, standIns := [], harness := (true, "4764b70f8623470a50b7ce1acf80ec698c3f3e3bb83f6c5d10683b75cb259304"), looks := false }, kinds := [], alts := [], laidByText := true, laidKinds := [.data], laidTests := true, laidLooks := .later }
def PeopleStepsAddUptoCardSaid : Prop := Claim7.holds Tryd.pinned (.plain (OpenSpec.upto peopleStepsAddSpec)) peopleStepsAddUptoCard

/-- THE SECOND FORM's CARD OF 'bullalaw10.PeopleSharesSum'. -/
def peopleSharesSumUptoCard : Claim7 := { stood := { row := peopleSharesSumUptoRow, standIns := [], harness := (true, "4764b70f8623470a50b7ce1acf80ec698c3f3e3bb83f6c5d10683b75cb259304"), looks := false }, kinds := [], alts := [], laidByText := true, laidKinds := [.data], laidTests := true, laidLooks := .later }
def PeopleSharesSumUptoCardSaid : Prop := Claim7.holds Tryd.pinned (.plain (OpenSpec.upto peopleSharesSumSpec)) peopleSharesSumUptoCard

/-- THE SECOND FORM's CARD OF 'bullalaw10.PeopleMergeKeeps'. -/
def peopleMergeKeepsUptoCard : Claim7 := { stood := { row := peopleMergeKeepsUptoRow, standIns := [], harness := (true, "4764b70f8623470a50b7ce1acf80ec698c3f3e3bb83f6c5d10683b75cb259304"), looks := false }, kinds := [], alts := [], laidByText := true, laidKinds := [.data], laidTests := true, laidLooks := .later }
def PeopleMergeKeepsUptoCardSaid : Prop := Claim7.holds Tryd.pinned (.plain (OpenSpec.upto peopleMergeKeepsSpec)) peopleMergeKeepsUptoCard
end Rows
end Go.Proofs.YtdmcopjbckelmaaDoor
