/-
  DERIVED. GIVEN WITH THE SEED: THE CARDS: each row of YtgodcegaffgfjaaGreatDoorRows.lean that lists a variable, with what it lists TIED to the program's text (the seventh form; the later family's looks); each row that meets fmt, with fmt's text TOLD by the authors' own Lean function (tested against real Go, not proved from fmt's source: count such statements apart). THE CARD IS WHAT COUNTS. Prove the row's statement (the work); the ties are given (YtgodcegaffgfjaaGreatDoorTie.lean); close each card by the builder's one call (the guide's Derived/Test/ToyasCard.lean, 'card_holds'). Laid BY PROGRAM, IN A SANDBOX (cutbox-door.mjs). By AI agents, Wed Nov 11 2026. No macro, syntax, notation, axiom, sorry.
-/
import Derived.Test.YtgodcegaffgfjaaGreatDoorRows
import GoSem.ClaimSeven
namespace Go.Proofs.YtgodcegaffgfjaaGreatDoor
namespace Rows

/-- THE TIED CARD OF 'mudlarklaw06.LangPaths'. -/
def langPathsCard : Claim7 := { stood := { row := langPathsRow, standIns := [], harness := (true, "98e714a7ea0b1cb39ec66a9bb2fc11960d72b03df56d3abf9266aaabf401199d"), looks := false }, kinds := [], alts := [], laidByText := true, laidKinds := [.data, .pinned, .pinned], laidTests := true, laidLooks := .later }
def LangPathsCardSaid : Prop := Claim7.holds Tryz.pinned (.plain (OpenSpec.ofChange langPathsSpec)) langPathsCard

/-- THE SECOND FORM's CARD OF 'mudlarklaw06.LangPaths'. -/
def langPathsUptoCard : Claim7 := { stood := { row := langPathsUptoRow, standIns := [], harness := (true, "98e714a7ea0b1cb39ec66a9bb2fc11960d72b03df56d3abf9266aaabf401199d"), looks := false }, kinds := [], alts := [], laidByText := true, laidKinds := [.data, .pinned, .pinned], laidTests := true, laidLooks := .later }
def LangPathsUptoCardSaid : Prop := Claim7.holds Tryz.pinned (.plain (OpenSpec.upto langPathsSpec)) langPathsUptoCard
end Rows
end Go.Proofs.YtgodcegaffgfjaaGreatDoor
