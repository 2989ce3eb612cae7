
/- The language of paths, in plain words: it is one of all; what has no point has none; what ends in a known extension has that one's. -/
import Derived.Test.YtgodcegaffgfjaaGreatDoorLaws06
namespace Go.Proofs.YtgodcegaffgfjaaGreatDoor

/-- All languages, rising, each once. -/
def allL : List (List UInt8) := [[99], [99, 112, 112], [99, 115, 115], [103, 111], [104, 116, 109, 108], [106, 97, 118, 97], [106, 97, 118, 97, 115, 99, 114, 105, 112, 116], [106, 115, 111, 110], [109, 97, 114, 107, 100, 111, 119, 110], [112, 121, 116, 104, 111, 110], [114, 117, 98, 121], [114, 117, 115, 116], [115, 104, 101, 108, 108], [115, 113, 108], [116, 101, 120, 116], [116, 121, 112, 101, 115, 99, 114, 105, 112, 116], [121, 97, 109, 108]]
end Go.Proofs.YtgodcegaffgfjaaGreatDoor
