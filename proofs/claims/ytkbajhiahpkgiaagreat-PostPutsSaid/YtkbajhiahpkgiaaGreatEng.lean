/- The frame words 'Ext' and 'ExtC' (what a step may turn), iterators with state in cells ('Iter'), and the law of a range over such an iterator; no program is named. -/
import Derived.RangeFuncNested
import Derived.RangeFuncBound
import Derived.RangeFuncCalls
import Derived.RangeFuncLeaves
import Derived.WalkKit
import Derived.OwnWalkIn
import Derived.TacticsInMore
import Derived.LoopNIn
import Derived.LoopIn
import Derived.Deep.Draws
import Derived.Lib.ConvBytes
import Derived.Maps.AppendAt
import Derived.Deep.LoopGhost
import Derived.Sort.LoopGhostIn
namespace Go.Proofs.YtkbajhiahpkgiaaGreat
open Go.RowKit

theorem hid {p : Prop} (h : p) : Hid p := h

section
variable {S S' : Nat → Prop} {A B C : World}
variable {n n' : Nat}
end

abbrev W9 : Fence := Fence.wide
section
variable {P : Program}
/-- The loop's value at a plain function value. -/
def GoesTo (P : Program) (gf : Nat) : Prop := ∀ args w, (callFunc gf args).run P w = .ok (.enter gf args) w

end

/-! Boxes: blocks of one cell. -/
section
variable {W : World} {b : Nat} {v : Value} {t : TypeId}
end

def bs (l : List UInt8) : ByteArray := ⟨l.toArray⟩
theorem bs_size (l : List UInt8) : (bs l).size = l.length := by simp [bs, ByteArray.size]

/-! Rows: a slice of n elements (size cells each) that the call owns, in a block that 'ok' lets. -/
section
variable {w w' : World} {ok ok' : Nat → Prop} {e : TypeId} {size n : Nat} {v : Value} {xs : List Value}
end

section
variable {P : Program}
end

end Go.Proofs.YtkbajhiahpkgiaaGreat
