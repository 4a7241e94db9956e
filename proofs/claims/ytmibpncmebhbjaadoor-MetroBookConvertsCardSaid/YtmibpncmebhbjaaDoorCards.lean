/-
  DERIVED. GIVEN WITH THE SEED: THE CARDS: each row of YtmibpncmebhbjaaDoorRows.lean that lists a variable, with what it lists TIED to the program's text (the seventh form; the later family's looks); each row that meets fmt, with fmt's text TOLD by the authors' own Lean function (tested against real Go, not proved from fmt's source: count such statements apart). THE CARD IS WHAT COUNTS. Prove the row's statement (the work); the ties are given (YtmibpncmebhbjaaDoorTie.lean); close each card by the builder's one call (the guide's Derived/Test/ToyasCard.lean, 'card_holds'). Laid BY PROGRAM, IN A SANDBOX (cutbox-door.mjs). By AI agents, Wed Nov 11 2026. No macro, syntax, notation, axiom, sorry.
-/
import Derived.Test.YtmibpncmebhbjaaDoorRows
import GoSem.ClaimSeven
namespace Go.Proofs.YtmibpncmebhbjaaDoor
namespace Rows

/-- THE TIED CARD OF 'bullalaw01.MetroRatioMakes'. -/
def metroRatioMakesCard : Claim7 := { stood := { row := metroRatioMakesRow, standIns := [], harness := (true, "39000107c98541ae85f89aa5d43c018fa150e1a34d3d32bffef3cfc6aba633ae"), looks := false }, kinds := [], alts := [], laidByText := true, laidKinds := [.data], laidTests := true, laidLooks := .later }
def MetroRatioMakesCardSaid : Prop := Claim7.holds Tryd.pinned (.plain (OpenSpec.ofChange metroRatioMakesSpec)) metroRatioMakesCard

/-- THE TIED CARD OF 'bullalaw01.MetroLadderReads'. -/
def metroLadderReadsCard : Claim7 := { stood := { row := metroLadderReadsRow, standIns := [], harness := (true, "39000107c98541ae85f89aa5d43c018fa150e1a34d3d32bffef3cfc6aba633ae"), looks := false }, kinds := [], alts := [], laidByText := true, laidKinds := [.data], laidTests := true, laidLooks := .later }
def MetroLadderReadsCardSaid : Prop := Claim7.holds Tryd.pinned (.plain (OpenSpec.ofChange metroLadderReadsSpec)) metroLadderReadsCard

/-- THE TIED CARD OF 'bullalaw01.MetroConvertBack'. -/
def metroConvertBackCard : Claim7 := { stood := { row := metroConvertBackRow, standIns := [], harness := (true, "39000107c98541ae85f89aa5d43c018fa150e1a34d3d32bffef3cfc6aba633ae"), looks := false }, kinds := [], alts := [], laidByText := true, laidKinds := [.data], laidTests := true, laidLooks := .later }
def MetroConvertBackCardSaid : Prop := Claim7.holds Tryd.pinned (.plain (OpenSpec.ofChange metroConvertBackSpec)) metroConvertBackCard

/-- THE TIED CARD OF 'bullalaw01.MetroBookConverts'. -/
def metroBookConvertsCard : Claim7 := { stood := { row := metroBookConvertsRow, standIns := [], harness := (true, "39000107c98541ae85f89aa5d43c018fa150e1a34d3d32bffef3cfc6aba633ae"), looks := false }, kinds := [], alts := [], laidByText := true, laidKinds := [.data], laidTests := true, laidLooks := .later }
def MetroBookConvertsCardSaid : Prop := Claim7.holds Tryd.pinned (.plain (OpenSpec.ofChange metroBookConvertsSpec)) metroBookConvertsCard

/-- THE TIED CARD OF 'bullalaw01.MetroRatioOrder'. -/
def metroRatioOrderCard : Claim7 := { stood := { row := metroRatioOrderRow, standIns := [], harness := (true, "39000107c98541ae85f89aa5d43c018fa150e1a34d3d32bffef3cfc6aba633ae"), looks := false }, kinds := [], alts := [], laidByText := true, laidKinds := [.data], laidTests := true, laidLooks := .later }
def MetroRatioOrderCardSaid : Prop := Claim7.holds Tryd.pinned (.plain (OpenSpec.ofChange metroRatioOrderSpec)) metroRatioOrderCard

/-- THE TIED CARD OF 'bullalaw01.MetroRoundNear'. -/
def metroRoundNearCard : Claim7 := { stood := { row := metroRoundNearRow, standIns := [], harness := (true, "39000107c98541ae85f89aa5d43c018fa150e1a34d3d32bffef3cfc6aba633ae"), looks := false }, kinds := [], alts := [], laidByText := true, laidKinds := [.data], laidTests := true, laidLooks := .later }
def MetroRoundNearCardSaid : Prop := Claim7.holds Tryd.pinned (.plain (OpenSpec.ofChange metroRoundNearSpec)) metroRoundNearCard

/-- THE TIED CARD OF 'bullalaw01.MetroBridgeOrder'. -/
def metroBridgeOrderCard : Claim7 := { stood := { row := metroBridgeOrderRow, standIns := [], harness := (true, "39000107c98541ae85f89aa5d43c018fa150e1a34d3d32bffef3cfc6aba633ae"), looks := false }, kinds := [], alts := [], laidByText := true, laidKinds := [.data], laidTests := true, laidLooks := .later }
def MetroBridgeOrderCardSaid : Prop := Claim7.holds Tryd.pinned (.plain (OpenSpec.ofChange metroBridgeOrderSpec)) metroBridgeOrderCard

/-- THE TIED CARD OF 'bullalaw01.MetroLadderSplits'. -/
def metroLadderSplitsCard : Claim7 := { stood := { row := metroLadderSplitsRow, standIns := [], harness := (true, "39000107c98541ae85f89aa5d43c018fa150e1a34d3d32bffef3cfc6aba633ae"), looks := false }, kinds := [], alts := [], laidByText := true, laidKinds := [.data], laidTests := true, laidLooks := .later }
def MetroLadderSplitsCardSaid : Prop := Claim7.holds Tryd.pinned (.plain (OpenSpec.ofChange metroLadderSplitsSpec)) metroLadderSplitsCard

/-- THE TIED CARD OF 'bullalaw01.MetroConvertAgree'. -/
def metroConvertAgreeCard : Claim7 := { stood := { row := metroConvertAgreeRow, standIns := [], harness := (true, "39000107c98541ae85f89aa5d43c018fa150e1a34d3d32bffef3cfc6aba633ae"), looks := false }, kinds := [], alts := [], laidByText := true, laidKinds := [.data], laidTests := true, laidLooks := .later }
def MetroConvertAgreeCardSaid : Prop := Claim7.holds Tryd.pinned (.plain (OpenSpec.ofChange metroConvertAgreeSpec)) metroConvertAgreeCard

/-- THE TIED CARD OF 'bullalaw01.MetroRatioProducts'. -/
def metroRatioProductsCard : Claim7 := { stood := { row := metroRatioProductsRow, standIns := [], harness := (true, "39000107c98541ae85f89aa5d43c018fa150e1a34d3d32bffef3cfc6aba633ae"), looks := false }, kinds := [], alts := [], laidByText := true, laidKinds := [.data], laidTests := true, laidLooks := .later }
def MetroRatioProductsCardSaid : Prop := Claim7.holds Tryd.pinned (.plain (OpenSpec.ofChange metroRatioProductsSpec)) metroRatioProductsCard

/-- THE TIED CARD OF 'bullalaw01.MetroRatioProductOrder'. -/
def metroRatioProductOrderCard : Claim7 := { stood := { row := metroRatioProductOrderRow, standIns := [], harness := (true, "39000107c98541ae85f89aa5d43c018fa150e1a34d3d32bffef3cfc6aba633ae"), looks := false }, kinds := [], alts := [], laidByText := true, laidKinds := [.data], laidTests := true, laidLooks := .later }
def MetroRatioProductOrderCardSaid : Prop := Claim7.holds Tryd.pinned (.plain (OpenSpec.ofChange metroRatioProductOrderSpec)) metroRatioProductOrderCard

/-- THE TIED CARD OF 'bullalaw01.MetroLadderBack'. -/
def metroLadderBackCard : Claim7 := { stood := { row := metroLadderBackRow, standIns := [], harness := (true, "39000107c98541ae85f89aa5d43c018fa150e1a34d3d32bffef3cfc6aba633ae"), looks := false }, kinds := [], alts := [], laidByText := true, laidKinds := [.data], laidTests := true, laidLooks := .later }
def MetroLadderBackCardSaid : Prop := Claim7.holds Tryd.pinned (.plain (OpenSpec.ofChange metroLadderBackSpec)) metroLadderBackCard

/-- THE TIED CARD OF 'bullalaw01.MetroRatioField'. -/
def metroRatioFieldCard : Claim7 := { stood := { row := metroRatioFieldRow, standIns := [], harness := (true, "39000107c98541ae85f89aa5d43c018fa150e1a34d3d32bffef3cfc6aba633ae"), looks := false }, kinds := [], alts := [], laidByText := true, laidKinds := [.data], laidTests := true, laidLooks := .later }
def MetroRatioFieldCardSaid : Prop := Claim7.holds Tryd.pinned (.plain (OpenSpec.ofChange metroRatioFieldSpec)) metroRatioFieldCard

/-- THE TIED CARD OF 'bullalaw01.MetroBookMakes'. -/
def metroBookMakesCard : Claim7 := { stood := { row := metroBookMakesRow, standIns := [], harness := (true, "39000107c98541ae85f89aa5d43c018fa150e1a34d3d32bffef3cfc6aba633ae"), looks := false }, kinds := [], alts := [], laidByText := true, laidKinds := [.data], laidTests := true, laidLooks := .later }
def MetroBookMakesCardSaid : Prop := Claim7.holds Tryd.pinned (.plain (OpenSpec.ofChange metroBookMakesSpec)) metroBookMakesCard

/-- THE TIED CARD OF 'bullalaw01.MetroLadderTotals'. -/
def metroLadderTotalsCard : Claim7 := { stood := { row := metroLadderTotalsRow, standIns := [], harness := (true, "39000107c98541ae85f89aa5d43c018fa150e1a34d3d32bffef3cfc6aba633ae"), looks := false }, kinds := [], alts := [], laidByText := true, laidKinds := [.data], laidTests := true, laidLooks := .later }
def MetroLadderTotalsCardSaid : Prop := Claim7.holds Tryd.pinned (.plain (OpenSpec.ofChange metroLadderTotalsSpec)) metroLadderTotalsCard

/-- THE TIED CARD OF 'bullalaw01.MetroCarryKeeps'. -/
def metroCarryKeepsCard : Claim7 := { stood := { row := metroCarryKeepsRow, standIns := [], harness := (true, "39000107c98541ae85f89aa5d43c018fa150e1a34d3d32bffef3cfc6aba633ae"), looks := false }, kinds := [], alts := [], laidByText := true, laidKinds := [.data], laidTests := true, laidLooks := .later }
def MetroCarryKeepsCardSaid : Prop := Claim7.holds Tryd.pinned (.plain (OpenSpec.ofChange metroCarryKeepsSpec)) metroCarryKeepsCard

/-- THE TIED CARD OF 'bullalaw01.MetroRatioSums'. -/
def metroRatioSumsCard : Claim7 := { stood := { row := metroRatioSumsRow, standIns := [], harness := (true, "39000107c98541ae85f89aa5d43c018fa150e1a34d3d32bffef3cfc6aba633ae"), looks := false }, kinds := [], alts := [], laidByText := true, laidKinds := [.data], laidTests := true, laidLooks := .later }
def MetroRatioSumsCardSaid : Prop := Claim7.holds Tryd.pinned (.plain (OpenSpec.ofChange metroRatioSumsSpec)) metroRatioSumsCard

/-- THE TIED CARD OF 'bullalaw01.MetroKnown'. -/
def metroKnownCard : Claim7 := { stood := { row := metroKnownRow, standIns := [], harness := (true, "39000107c98541ae85f89aa5d43c018fa150e1a34d3d32bffef3cfc6aba633ae"), looks := false }, kinds := [], alts := [], laidByText := true, laidKinds := [.data], laidTests := true, laidLooks := .later }
def MetroKnownCardSaid : Prop := Claim7.holds Tryd.pinned (.plain (OpenSpec.ofChange metroKnownSpec)) metroKnownCard

/-- THE SECOND FORM's CARD OF 'bullalaw01.MetroRatioMakes'. -/
def metroRatioMakesUptoCard : Claim7 := { stood := { row := metroRatioMakesUptoRow, standIns := [], harness := (true, "39000107c98541ae85f89aa5d43c018fa150e1a34d3d32bffef3cfc6aba633ae"), looks := false }, kinds := [], alts := [], laidByText := true, laidKinds := [.data], laidTests := true, laidLooks := .later }
def MetroRatioMakesUptoCardSaid : Prop := Claim7.holds Tryd.pinned (.plain (OpenSpec.upto metroRatioMakesSpec)) metroRatioMakesUptoCard

/-- THE SECOND FORM's CARD OF 'bullalaw01.MetroLadderReads'. -/
def metroLadderReadsUptoCard : Claim7 := { stood := { row := metroLadderReadsUptoRow, standIns := [], harness := (true, "39000107c98541ae85f89aa5d43c018fa150e1a34d3d32bffef3cfc6aba633ae"), looks := false }, kinds := [], alts := [], laidByText := true, laidKinds := [.data], laidTests := true, laidLooks := .later }
def MetroLadderReadsUptoCardSaid : Prop := Claim7.holds Tryd.pinned (.plain (OpenSpec.upto metroLadderReadsSpec)) metroLadderReadsUptoCard

/-- THE SECOND FORM's CARD OF 'bullalaw01.MetroConvertBack'. -/
def metroConvertBackUptoCard : Claim7 := { stood := { row := metroConvertBackUptoRow, standIns := [], harness := (true, "39000107c98541ae85f89aa5d43c018fa150e1a34d3d32bffef3cfc6aba633ae"), looks := false }, kinds := [], alts := [], laidByText := true, laidKinds := [.data], laidTests := true, laidLooks := .later }
def MetroConvertBackUptoCardSaid : Prop := Claim7.holds Tryd.pinned (.plain (OpenSpec.upto metroConvertBackSpec)) metroConvertBackUptoCard

/-- THE SECOND FORM's CARD OF 'bullalaw01.MetroBookConverts'. -/
def metroBookConvertsUptoCard : Claim7 := { stood := { row := metroBookConvertsUptoRow, standIns := [], harness := (true, "39000107c98541ae85f89aa5d43c018fa150e1a34d3d32bffef3cfc6aba633ae"), looks := false }, kinds := [], alts := [], laidByText := true, laidKinds := [.data], laidTests := true, laidLooks := .later }
def MetroBookConvertsUptoCardSaid : Prop := Claim7.holds Tryd.pinned (.plain (OpenSpec.upto metroBookConvertsSpec)) metroBookConvertsUptoCard

/-- THE SECOND FORM's CARD OF 'bullalaw01.MetroRatioOrder'. -/
def metroRatioOrderUptoCard : Claim7 := { stood := { row := metroRatioOrderUptoRow, standIns := [], harness := (true, "39000107c98541ae85f89aa5d43c018fa150e1a34d3d32bffef3cfc6aba633ae"), looks := false }, kinds := [], alts := [], laidByText := true, laidKinds := [.data], laidTests := true, laidLooks := .later }
def MetroRatioOrderUptoCardSaid : Prop := Claim7.holds Tryd.pinned (.plain (OpenSpec.upto metroRatioOrderSpec)) metroRatioOrderUptoCard

/-- THE SECOND FORM's CARD OF 'bullalaw01.MetroRoundNear'. -/
def metroRoundNearUptoCard : Claim7 := { stood := { row := metroRoundNearUptoRow, standIns := [], harness := (true, "39000107c98541ae85f89aa5d43c018fa150e1a34d3d32bffef3cfc6aba633ae"), looks := false }, kinds := [], alts := [], laidByText := true, laidKinds := [.data], laidTests := true, laidLooks := .later }
def MetroRoundNearUptoCardSaid : Prop := Claim7.holds Tryd.pinned (.plain (OpenSpec.upto metroRoundNearSpec)) metroRoundNearUptoCard

/-- THE SECOND FORM's CARD OF 'bullalaw01.MetroBridgeOrder'. -/
def metroBridgeOrderUptoCard : Claim7 := { stood := { row := metroBridgeOrderUptoRow, standIns := [], harness := (true, "39000107c98541ae85f89aa5d43c018fa150e1a34d3d32bffef3cfc6aba633ae"), looks := false }, kinds := [], alts := [], laidByText := true, laidKinds := [.data], laidTests := true, laidLooks := .later }
def MetroBridgeOrderUptoCardSaid : Prop := Claim7.holds Tryd.pinned (.plain (OpenSpec.upto metroBridgeOrderSpec)) metroBridgeOrderUptoCard

/-- THE SECOND FORM's CARD OF 'bullalaw01.MetroLadderSplits'. -/
def metroLadderSplitsUptoCard : Claim7 := { stood := { row := metroLadderSplitsUptoRow, standIns := [], harness := (true, "39000107c98541ae85f89aa5d43c018fa150e1a34d3d32bffef3cfc6aba633ae"), looks := false }, kinds := [], alts := [], laidByText := true, laidKinds := [.data], laidTests := true, laidLooks := .later }
def MetroLadderSplitsUptoCardSaid : Prop := Claim7.holds Tryd.pinned (.plain (OpenSpec.upto metroLadderSplitsSpec)) metroLadderSplitsUptoCard

/-- THE SECOND FORM's CARD OF 'bullalaw01.MetroConvertAgree'. -/
def metroConvertAgreeUptoCard : Claim7 := { stood := { row := metroConvertAgreeUptoRow, standIns := [], harness := (true, "39000107c98541ae85f89aa5d43c018fa150e1a34d3d32bffef3cfc6aba633ae"), looks := false }, kinds := [], alts := [], laidByText := true, laidKinds := [.data], laidTests := true, laidLooks := .later }
def MetroConvertAgreeUptoCardSaid : Prop := Claim7.holds Tryd.pinned (.plain (OpenSpec.upto metroConvertAgreeSpec)) metroConvertAgreeUptoCard

/-- THE SECOND FORM's CARD OF 'bullalaw01.MetroRatioProducts'. -/
def metroRatioProductsUptoCard : Claim7 := { stood := { row := metroRatioProductsUptoRow, standIns := [], harness := (true, "39000107c98541ae85f89aa5d43c018fa150e1a34d3d32bffef3cfc6aba633ae"), looks := false }, kinds := [], alts := [], laidByText := true, laidKinds := [.data], laidTests := true, laidLooks := .later }
def MetroRatioProductsUptoCardSaid : Prop := Claim7.holds Tryd.pinned (.plain (OpenSpec.upto metroRatioProductsSpec)) metroRatioProductsUptoCard

/-- THE SECOND FORM's CARD OF 'bullalaw01.MetroRatioProductOrder'. -/
def metroRatioProductOrderUptoCard : Claim7 := { stood := { row := metroRatioProductOrderUptoRow, standIns := [], harness := (true, "39000107c98541ae85f89aa5d43c018fa150e1a34d3d32bffef3cfc6aba633ae"), looks := false }, kinds := [], alts := [], laidByText := true, laidKinds := [.data], laidTests := true, laidLooks := .later }
def MetroRatioProductOrderUptoCardSaid : Prop := Claim7.holds Tryd.pinned (.plain (OpenSpec.upto metroRatioProductOrderSpec)) metroRatioProductOrderUptoCard

/-- THE SECOND FORM's CARD OF 'bullalaw01.MetroLadderBack'. -/
def metroLadderBackUptoCard : Claim7 := { stood := { row := metroLadderBackUptoRow, standIns := [], harness := (true, "39000107c98541ae85f89aa5d43c018fa150e1a34d3d32bffef3cfc6aba633ae"), looks := false }, kinds := [], alts := [], laidByText := true, laidKinds := [.data], laidTests := true, laidLooks := .later }
def MetroLadderBackUptoCardSaid : Prop := Claim7.holds Tryd.pinned (.plain (OpenSpec.upto metroLadderBackSpec)) metroLadderBackUptoCard

/-- THE SECOND FORM's CARD OF 'bullalaw01.MetroRatioField'. -/
def metroRatioFieldUptoCard : Claim7 := { stood := { row := metroRatioFieldUptoRow, standIns := [], harness := (true, "39000107c98541ae85f89aa5d43c018fa150e1a34d3d32bffef3cfc6aba633ae"), looks := false }, kinds := [], alts := [], laidByText := true, laidKinds := [.data], laidTests := true, laidLooks := .later }
def MetroRatioFieldUptoCardSaid : Prop := Claim7.holds Tryd.pinned (.plain (OpenSpec.upto metroRatioFieldSpec)) metroRatioFieldUptoCard

/-- THE SECOND FORM's CARD OF 'bullalaw01.MetroBookMakes'. -/
def metroBookMakesUptoCard : Claim7 := { stood := { row := metroBookMakesUptoRow, standIns := [], harness := (true, "39000107c98541ae85f89aa5d43c018fa150e1a34d3d32bffef3cfc6aba633ae"), looks := false }, kinds := [], alts := [], laidByText := true, laidKinds := [.data], laidTests := true, laidLooks := .later }
def MetroBookMakesUptoCardSaid : Prop := Claim7.holds Tryd.pinned (.plain (OpenSpec.upto metroBookMakesSpec)) metroBookMakesUptoCard

/-- THE SECOND FORM's CARD OF 'bullalaw01.MetroLadderTotals'. -/
def metroLadderTotalsUptoCard : Claim7 := { stood := { row := metroLadderTotalsUptoRow, standIns := [], harness := (true, "39000107c98541ae85f89aa5d43c018fa150e1a34d3d32bffef3cfc6aba633ae"), looks := false }, kinds := [], alts := [], laidByText := true, laidKinds := [.data], laidTests := true, laidLooks := .later }
def MetroLadderTotalsUptoCardSaid : Prop := Claim7.holds Tryd.pinned (.plain (OpenSpec.upto metroLadderTotalsSpec)) metroLadderTotalsUptoCard

/-- THE SECOND FORM's CARD OF 'bullalaw01.MetroCarryKeeps'. -/
def metroCarryKeepsUptoCard : Claim7 := { stood := { row := metroCarryKeepsUptoRow, standIns := [], harness := (true, "39000107c98541ae85f89aa5d43c018fa150e1a34d3d32bffef3cfc6aba633ae"), looks := false }, kinds := [], alts := [], laidByText := true, laidKinds := [.data], laidTests := true, laidLooks := .later }
def MetroCarryKeepsUptoCardSaid : Prop := Claim7.holds Tryd.pinned (.plain (OpenSpec.upto metroCarryKeepsSpec)) metroCarryKeepsUptoCard

/-- THE SECOND FORM's CARD OF 'bullalaw01.MetroRatioSums'. -/
def metroRatioSumsUptoCard : Claim7 := { stood := { row := metroRatioSumsUptoRow, standIns := [], harness := (true, "39000107c98541ae85f89aa5d43c018fa150e1a34d3d32bffef3cfc6aba633ae"), looks := false }, kinds := [], alts := [], laidByText := true, laidKinds := [.data], laidTests := true, laidLooks := .later }
def MetroRatioSumsUptoCardSaid : Prop := Claim7.holds Tryd.pinned (.plain (OpenSpec.upto metroRatioSumsSpec)) metroRatioSumsUptoCard

/-- THE SECOND FORM's CARD OF 'bullalaw01.MetroKnown'. -/
def metroKnownUptoCard : Claim7 := { stood := { row := metroKnownUptoRow, standIns := [], harness := (true, "39000107c98541ae85f89aa5d43c018fa150e1a34d3d32bffef3cfc6aba633ae"), looks := false }, kinds := [], alts := [], laidByText := true, laidKinds := [.data], laidTests := true, laidLooks := .later }
def MetroKnownUptoCardSaid : Prop := Claim7.holds Tryd.pinned (.plain (OpenSpec.upto metroKnownSpec)) metroKnownUptoCard
end Rows
end Go.Proofs.YtmibpncmebhbjaaDoor
