
/- Slices of things of several cells; files and docs; slices.IndexFunc and ContainsFunc over them. mudlarkkit.SameBytes: its contract. -/
import Derived.Test.YtgodcegaffgfjaaDoorWd
import Derived.Test.YtgodcegaffgfjaaDoorSx
import Derived.Test.YtgodcegaffgfjaaDoorPu
import Derived.Test.YtgodcegaffgfjaaDoorTy
import Derived.Test.YtgodcegaffgfjaaDoorGo
namespace Go.Proofs.YtgodcegaffgfjaaDoor
open Go.RowKit Sx


structure FileV where
  path : List UInt8
  val : Value
  data : List UInt8
  deriving Inhabited
abbrev FileV.key (f : FileV) : List UInt8 × List UInt8 := (f.path, f.data)
def idx (o : Option Nat) : Int := match o with | some k => k | none => -1
theorem find_app {α : Type} {q : α → Bool} {xs : List α} {k : Nat} (hk : k < xs.length) (h : (xs.take k).findIdx? q = none) : (xs.take (k + 1)).findIdx? q = if q xs[k] then some k else none := by
  rw [List.take_succ_eq_append_getElem hk, List.findIdx?_append, h]
  simp only [List.findIdx?_cons, List.findIdx?_nil, List.length_take, Nat.min_eq_left (Nat.le_of_lt hk)]
  cases q xs[k] <;> simp
theorem find_fst {α : Type} {q : α → Bool} {xs : List α} {k : Nat} (hk : k < xs.length) (h : (xs.take k).findIdx? q = none) (hq : q xs[k] = true) : xs.findIdx? q = some k := by
  have h1 := find_app hk h
  rw [hq] at h1
  conv => lhs; rw [← List.take_append_drop (k + 1) xs]
  rw [List.findIdx?_append, h1]; rfl

end Go.Proofs.YtgodcegaffgfjaaDoor

namespace Go.Proofs.YtgodcegaffgfjaaDoor
open Go.RowKit Sx

theorem take_getD {α : Type} {k : Nat} {l : List α} {d : α} (h : k < l.length) : l.take (k + 1) = l.take k ++ [l.getD k d] := by
  rw [List.take_succ_eq_append_getElem h]; simp [h]
theorem maxI {n : Nat} (h : n ≤ maxLen) : n ≤ 9223372036854775807 := by unfold maxLen at h; omega
end Go.Proofs.YtgodcegaffgfjaaDoor
