/- Rpb: bytes, strings as arguments of this seat's laws. -/
import Derived.Test.YtkbajhiahpkgiaaRo
import Derived.Test.YtkbajhiahpkgiaaWd
namespace Go.Proofs.Ytkbajhiahpkgiaa
open Go.RowKit Sx

theorem reach_eq : reachBytes = 140737488351232 := rfl
theorem op_bytes {H : Type} {enc : TypeId × Value → H} {W : World} {n : Nat} {cs : List Value} {x : DataW H × List MemPlace} (h : DataW.trod enc Try.prog W 0 (fun _ => true) true n 30 cs = some x) (hw : Wt Try.prog 30 x.1) :
    ∃ v, ∃ l : List UInt8, cs = [v] ∧ U8S (hpOf W) v l ∧ l.length ≤ 140737488351232 :=
  open_bytes Try.underlying30 Try.underlying5 (by kernel_rfl) (by kernel_rfl) h hw
theorem op_str {H : Type} {enc : TypeId × Value → H} {n : Nat} {cs : List Value} {x : DataW H × List MemPlace} {w : World} {b : Nat} {sp : Nat → Bool} {hd : Bool} (h : DataW.trod enc Try.prog w b sp hd n 9 cs = some x) (hw : Wt Try.prog 9 x.1) :
    ∃ l : List UInt8, cs = [.string (bs l)] ∧ l.length ≤ 140737488351232 := open_str Try.underlying9 h hw
end Go.Proofs.Ytkbajhiahpkgiaa
