
/- Slices of things of several cells; files and docs; slices.IndexFunc and ContainsFunc over them. mudlarkkit.SameBytes: its contract. -/
import Derived.Test.YtgodcegaffgfjaaGreatDoorWd
import Derived.Test.YtgodcegaffgfjaaGreatDoorSx
import Derived.Test.YtgodcegaffgfjaaGreatDoorPu
import Derived.Test.YtgodcegaffgfjaaGreatDoorTy
import Derived.Test.YtgodcegaffgfjaaGreatDoorGo
namespace Go.Proofs.YtgodcegaffgfjaaGreatDoor
open Go.RowKit Sx


structure FileV where
  path : List UInt8
  val : Value
  data : List UInt8
  deriving Inhabited
abbrev FileV.key (f : FileV) : List UInt8 × List UInt8 := (f.path, f.data)
end Go.Proofs.YtgodcegaffgfjaaGreatDoor

namespace Go.Proofs.YtgodcegaffgfjaaGreatDoor
open Go.RowKit Sx

theorem take_getD {α : Type} {k : Nat} {l : List α} {d : α} (h : k < l.length) : l.take (k + 1) = l.take k ++ [l.getD k d] := by
  rw [List.take_succ_eq_append_getElem h]; simp [h]
theorem maxI {n : Nat} (h : n ≤ maxLen) : n ≤ 9223372036854775807 := by unfold maxLen at h; omega
end Go.Proofs.YtgodcegaffgfjaaGreatDoor
