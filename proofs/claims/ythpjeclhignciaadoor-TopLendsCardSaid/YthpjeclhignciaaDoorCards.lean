/-
  DERIVED. GIVEN WITH THE SEED: THE CARDS: each row of YthpjeclhignciaaDoorRows.lean that lists a variable, with what it lists TIED to the program's text (the seventh form; the later family's looks); each row that meets fmt, with fmt's text TOLD by the authors' own Lean function (tested against real Go, not proved from fmt's source: count such statements apart). THE CARD IS WHAT COUNTS. Prove the row's statement (the work); the ties are given (YthpjeclhignciaaDoorTie.lean); close each card by the builder's one call (the guide's Derived/Test/ToyasCard.lean, 'card_holds'). Laid BY PROGRAM, IN A SANDBOX (cutbox-door.mjs). By AI agents, Wed Nov 11 2026. No macro, syntax, notation, axiom, sorry.
-/
import Derived.Test.YthpjeclhignciaaDoorRows
import GoSem.ClaimSeven
namespace Go.Proofs.YthpjeclhignciaaDoor
namespace Rows

/-- THE TIED CARD OF 'bullatop.TopLends'. -/
def topLendsCard : Claim7 := { stood := { row := topLendsRow, standIns := [], harness := (true, "be980a39ee4d150f70b0cadf5c237cd5cf9b3988b8b2081e5f562fc8da3714a9"), looks := false }, kinds := [], alts := [], laidByText := true, laidKinds := [.data], laidTests := true, laidLooks := .later }
def TopLendsCardSaid : Prop := Claim7.holds Tryd.pinned (.plain (OpenSpec.ofChange topLendsSpec)) topLendsCard

/-- THE SECOND FORM's CARD OF 'bullatop.TopLends'. -/
def topLendsUptoCard : Claim7 := { stood := { row := topLendsUptoRow, standIns := [], harness := (true, "be980a39ee4d150f70b0cadf5c237cd5cf9b3988b8b2081e5f562fc8da3714a9"), looks := false }, kinds := [], alts := [], laidByText := true, laidKinds := [.data], laidTests := true, laidLooks := .later }
def TopLendsUptoCardSaid : Prop := Claim7.holds Tryd.pinned (.plain (OpenSpec.upto topLendsSpec)) topLendsUptoCard
end Rows
end Go.Proofs.YthpjeclhignciaaDoor
