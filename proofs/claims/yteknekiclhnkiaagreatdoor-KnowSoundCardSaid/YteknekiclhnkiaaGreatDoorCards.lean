/-
  DERIVED. GIVEN WITH THE SEED: THE CARDS: each row of YteknekiclhnkiaaGreatDoorRows.lean that lists a variable, with what it lists TIED to the program's text (the seventh form; the later family's looks); each row that meets fmt, with fmt's text TOLD by the authors' own Lean function (tested against real Go, not proved from fmt's source: count such statements apart). THE CARD IS WHAT COUNTS. Prove the row's statement (the work); the ties are given (YteknekiclhnkiaaGreatDoorTie.lean); close each card by the builder's one call (the guide's Derived/Test/ToyasCard.lean, 'card_holds'). Laid BY PROGRAM, IN A SANDBOX (cutbox-door.mjs). By AI agents, Wed Nov 11 2026. No macro, syntax, notation, axiom, sorry.
-/
import Derived.Test.YteknekiclhnkiaaGreatDoorRows
import GoSem.ClaimSeven
namespace Go.Proofs.YteknekiclhnkiaaGreatDoor
namespace Rows

/-- THE TIED CARD OF 'mudlarklaw17.KnowSound'. -/
def knowSoundCard : Claim7 := { stood := { row := knowSoundRow, standIns := [], harness := (true, "4f4362ee323332e9da39c1d2e90e32e26d7594ccc6ce30af1ba05ace67a67846"), looks := false }, kinds := [], alts := [], laidByText := true, laidKinds := [.data, .data, .data], laidTests := true, laidLooks := .later }
def KnowSoundCardSaid : Prop := Claim7.holds Tryz.pinned (.plain (OpenSpec.ofChange knowSoundSpec)) knowSoundCard

/-- THE SECOND FORM's CARD OF 'mudlarklaw17.KnowSound'. -/
def knowSoundUptoCard : Claim7 := { stood := { row := knowSoundUptoRow, standIns := [], harness := (true, "4f4362ee323332e9da39c1d2e90e32e26d7594ccc6ce30af1ba05ace67a67846"), looks := false }, kinds := [], alts := [], laidByText := true, laidKinds := [.data, .data, .data], laidTests := true, laidLooks := .later }
def KnowSoundUptoCardSaid : Prop := Claim7.holds Tryz.pinned (.plain (OpenSpec.upto knowSoundSpec)) knowSoundUptoCard
end Rows
end Go.Proofs.YteknekiclhnkiaaGreatDoor
