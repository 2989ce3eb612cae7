/-
  DERIVED. GIVEN WITH THE SEED: THE CARDS: each row of YtgodcegaffgfjaaDoorRows.lean that lists a variable, with what it lists TIED to the program's text (the seventh form; the later family's looks); each row that meets fmt, with fmt's text TOLD by the authors' own Lean function (tested against real Go, not proved from fmt's source: count such statements apart). THE CARD IS WHAT COUNTS. Prove the row's statement (the work); the ties are given (YtgodcegaffgfjaaDoorTie.lean); close each card by the builder's one call (the guide's Derived/Test/ToyasCard.lean, 'card_holds'). Laid BY PROGRAM, IN A SANDBOX (cutbox-door.mjs). By AI agents, Wed Nov 11 2026. No macro, syntax, notation, axiom, sorry.
-/
import Derived.Test.YtgodcegaffgfjaaDoorRows
import GoSem.ClaimSeven
namespace Go.Proofs.YtgodcegaffgfjaaDoor
namespace Rows

/-- THE TIED CARD OF 'mudlarklaw16.QueryMeans'. -/
def queryMeansCard : Claim7 := { stood := { row := queryMeansRow, standIns := [], harness := (true, "da520c6ab7258eaab91f6d99d08dcfe16854feeb7b9f53b23cd5a04f1bacc865"), looks := false }, kinds := [], alts := [], laidByText := true, laidKinds := [.data, .data, .data], laidTests := true, laidLooks := .later }
def QueryMeansCardSaid : Prop := Claim7.holds Tryd.pinned (.plain (OpenSpec.ofChange queryMeansSpec)) queryMeansCard

/-- THE TIED CARD OF 'mudlarklaw16.QueryOrder'. -/
def queryOrderCard : Claim7 := { stood := { row := queryOrderRow, standIns := [], harness := (true, "da520c6ab7258eaab91f6d99d08dcfe16854feeb7b9f53b23cd5a04f1bacc865"), looks := false }, kinds := [], alts := [], laidByText := true, laidKinds := [.data, .data, .data], laidTests := true, laidLooks := .later }
def QueryOrderCardSaid : Prop := Claim7.holds Tryd.pinned (.plain (OpenSpec.ofChange queryOrderSpec)) queryOrderCard

/-- THE SECOND FORM's CARD OF 'mudlarklaw16.QueryMeans'. -/
def queryMeansUptoCard : Claim7 := { stood := { row := queryMeansUptoRow, standIns := [], harness := (true, "da520c6ab7258eaab91f6d99d08dcfe16854feeb7b9f53b23cd5a04f1bacc865"), looks := false }, kinds := [], alts := [], laidByText := true, laidKinds := [.data, .data, .data], laidTests := true, laidLooks := .later }
def QueryMeansUptoCardSaid : Prop := Claim7.holds Tryd.pinned (.plain (OpenSpec.upto queryMeansSpec)) queryMeansUptoCard

/-- THE SECOND FORM's CARD OF 'mudlarklaw16.QueryOrder'. -/
def queryOrderUptoCard : Claim7 := { stood := { row := queryOrderUptoRow, standIns := [], harness := (true, "da520c6ab7258eaab91f6d99d08dcfe16854feeb7b9f53b23cd5a04f1bacc865"), looks := false }, kinds := [], alts := [], laidByText := true, laidKinds := [.data, .data, .data], laidTests := true, laidLooks := .later }
def QueryOrderUptoCardSaid : Prop := Claim7.holds Tryd.pinned (.plain (OpenSpec.upto queryOrderSpec)) queryOrderUptoCard
end Rows
end Go.Proofs.YtgodcegaffgfjaaDoor
