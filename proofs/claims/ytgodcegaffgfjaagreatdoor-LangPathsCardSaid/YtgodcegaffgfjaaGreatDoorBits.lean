
/- Numbers as bytes: what the wire's writers put and its readers get; plain functions on lists, no program. -/
import Derived.Test.YtgodcegaffgfjaaGreatDoorAp
import Derived.Laws.BitsLemmas
import Derived.Laws.Bits64b
import Derived.WalkKit
import Derived.Laws.BitsAllLaws
namespace Go.Proofs.YtgodcegaffgfjaaGreatDoor

/-- The bytes of a number: seven bits each, the lowest first, all but the last one marked. -/
def septs (n : Nat) : List UInt8 := if h : n < 128 then [UInt8.ofNat n] else UInt8.ofNat (n % 128 + 128) :: septs (n / 128)
termination_by n
decreasing_by omega

def texts (l : List UInt8) : List UInt8 := septs l.length ++ l
end Go.Proofs.YtgodcegaffgfjaaGreatDoor

/- Bits of 32: masks, or; the bytes of a number the other way round; no program is named. -/
namespace Go.Proofs.YtgodcegaffgfjaaGreatDoor
open Go.RowKit

end Go.Proofs.YtgodcegaffgfjaaGreatDoor

/- Numbers as bytes, read: the arithmetic of a round. No program is named. -/
namespace Go.Proofs.YtgodcegaffgfjaaGreatDoor
open Go.RowKit

end Go.Proofs.YtgodcegaffgfjaaGreatDoor

/- Sums by bits and by a table: plain facts on numbers. No program is named. -/
namespace Go.Proofs.YtgodcegaffgfjaaGreatDoor

def poly : Nat := 3988292384
/-- A bit taken into a number. -/
def crcBit (s : Nat) (b : Bool) : Nat := if ((s % 2 == 1) != b) then s / 2 ^^^ poly else s / 2
/-- One step without a bit. -/
def st (x : Nat) : Nat := crcBit x false
end Go.Proofs.YtgodcegaffgfjaaGreatDoor
