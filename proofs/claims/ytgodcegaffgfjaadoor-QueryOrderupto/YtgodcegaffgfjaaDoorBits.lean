
/- Numbers as bytes: what the wire's writers put and its readers get; plain functions on lists, no program. -/
import Derived.Test.YtgodcegaffgfjaaDoorAp
import Derived.Laws.BitsLemmas
import Derived.Laws.Bits64b
import Derived.WalkKit
import Derived.Laws.BitsAllLaws
namespace Go.Proofs.YtgodcegaffgfjaaDoor

end Go.Proofs.YtgodcegaffgfjaaDoor

/- Bits of 32: masks, or; the bytes of a number the other way round; no program is named. -/
namespace Go.Proofs.YtgodcegaffgfjaaDoor
open Go.RowKit

end Go.Proofs.YtgodcegaffgfjaaDoor

/- Numbers as bytes, read: the arithmetic of a round. No program is named. -/
namespace Go.Proofs.YtgodcegaffgfjaaDoor
open Go.RowKit

end Go.Proofs.YtgodcegaffgfjaaDoor

/- Sums by bits and by a table: plain facts on numbers. No program is named. -/
namespace Go.Proofs.YtgodcegaffgfjaaDoor

def poly : Nat := 3988292384
/-- A bit taken into a number. -/
def crcBit (s : Nat) (b : Bool) : Nat := if ((s % 2 == 1) != b) then s / 2 ^^^ poly else s / 2
/-- One step without a bit. -/
def st (x : Nat) : Nat := crcBit x false
end Go.Proofs.YtgodcegaffgfjaaDoor
