/-
  DERIVED. GIVEN WITH THE SEED: THE CARDS: each row of YtdccjfabdfgomaaGreatDoorRows.lean that lists a variable, with what it lists TIED to the program's text (the seventh form; the later family's looks); each row that meets fmt, with fmt's text TOLD by the authors' own Lean function (tested against real Go, not proved from fmt's source: count such statements apart). THE CARD IS WHAT COUNTS. Prove the row's statement (the work); the ties are given (YtdccjfabdfgomaaGreatDoorTie.lean); close each card by the builder's one call (the guide's Derived/Test/ToyasCard.lean, 'card_holds'). Laid BY PROGRAM, IN A SANDBOX (cutbox-door.mjs). By AI agents, Wed Nov 11 2026. No macro, syntax, notation, axiom, sorry.
-/
import Derived.Test.YtdccjfabdfgomaaGreatDoorRows
import GoSem.ClaimSeven
namespace Go.Proofs.YtdccjfabdfgomaaGreatDoor
namespace Rows

/-- THE TIED CARD OF 'mudlarklaw17.KnowRuns'. -/
def knowRunsCard : Claim7 := { stood := { row := knowRunsRow, standIns := [], harness := (true, "50d2e518cd772f865b6daba826fd6f4d291226e2685bc1b89a8075217ee99424"), looks := false }, kinds := [], alts := [], laidByText := true, laidKinds := [.data, .data, .data], laidTests := true, laidLooks := .later }
def KnowRunsCardSaid : Prop := Claim7.holds Tryz.pinned (.plain (OpenSpec.ofChange knowRunsSpec)) knowRunsCard

/-- THE SECOND FORM's CARD OF 'mudlarklaw17.KnowRuns'. -/
def knowRunsUptoCard : Claim7 := { stood := { row := knowRunsUptoRow, standIns := [], harness := (true, "50d2e518cd772f865b6daba826fd6f4d291226e2685bc1b89a8075217ee99424"), looks := false }, kinds := [], alts := [], laidByText := true, laidKinds := [.data, .data, .data], laidTests := true, laidLooks := .later }
def KnowRunsUptoCardSaid : Prop := Claim7.holds Tryz.pinned (.plain (OpenSpec.upto knowRunsSpec)) knowRunsUptoCard
end Rows
end Go.Proofs.YtdccjfabdfgomaaGreatDoor
