
/- Queries of trigrams in plain Lean: texts, which are right, what satisfies them, And and Or. No program. -/
namespace Go.Proofs.YtgodcegaffgfjaaGreatDoor

abbrev Tx := List UInt8
/-! Lists that rise by a key. -/
section
variable {α : Type} {key : α → Tx}
end

/-! Queries. -/
inductive Qu where
  | mk (kind : Int) (grams : List Tx) (subs : List Qu)
namespace Qu
def kind : Qu → Int | .mk k _ _ => k
def grams : Qu → List Tx | .mk _ g _ => g
def subs : Qu → List Qu | .mk _ _ s => s
end Qu
/-! A right query is told by its text. -/
/-! And, Or; what satisfies a query. -/
/-! The order changes nothing. -/
end Go.Proofs.YtgodcegaffgfjaaGreatDoor
