
/- mudlarklaw06.LangKnown: its contract. -/
import Derived.Test.YtgodcegaffgfjaaGreatDoorAl
import Derived.Test.YtgodcegaffgfjaaGreatDoorLaws06
import Derived.Lib.IndexAny
namespace Go.Proofs.YtgodcegaffgfjaaGreatDoor
open Go.RowKit Sx

theorem awake06_tri (r : Hp) : Tri Tryz.prog r 12 [] [] fun w H => w = .bool true ∧ H = [] := tri_ext fun w => awake_any w
end Go.Proofs.YtgodcegaffgfjaaGreatDoor
