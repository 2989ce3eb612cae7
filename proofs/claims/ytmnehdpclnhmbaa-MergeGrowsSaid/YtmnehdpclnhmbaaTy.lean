
/- What the types are: facts by evaluation. -/
import Derived.Test.YtmnehdpclnhmbaaGo
import Derived.Test.YtmnehdpclnhmbaaProg
namespace Go.Proofs.Ytmnehdpclnhmbaa
open Go.RowKit
instance : Sx.TyPl Try.prog 36 [(0, 1), (1, 1)] := ⟨Sx.pl_s (by kernel_rfl)⟩
instance : Sx.TyPl Try.prog 42 [(0, 1), (1, 1)] := ⟨Sx.pl_s (by kernel_rfl)⟩
instance : Sx.TyPl Try.prog 44 [(0, 1), (1, 1), (2, 1)] := ⟨Sx.pl_s (by kernel_rfl)⟩
instance : Sx.TyPl Try.prog 51 [(0, 1)] := ⟨Sx.pl_s (by kernel_rfl)⟩
instance : Sx.TyPl Try.prog 68 [(0, 2), (2, 1)] := ⟨Sx.pl_s (by kernel_rfl)⟩
instance : Sx.TyF Try.prog 3 false 1 := ⟨by kernel_rfl, by kernel_rfl⟩
instance : Sx.TyZ Try.prog 3 (.int .i64 0) 1 8 := ⟨by kernel_rfl⟩
instance : Sx.TyKd Try.prog 3 (.int .i64) := ⟨by kernel_rfl⟩
instance : Sx.TyF Try.prog 4 false 1 := ⟨by kernel_rfl, by kernel_rfl⟩
instance : Sx.TyZ Try.prog 4 (.bool false) 1 1 := ⟨by kernel_rfl⟩
instance : Sx.TyF Try.prog 5 false 1 := ⟨by kernel_rfl, by kernel_rfl⟩
instance : Sx.TyZ Try.prog 5 (.int .u8 0) 1 1 := ⟨by kernel_rfl⟩
instance : Sx.TyF Try.prog 9 false 1 := ⟨by kernel_rfl, by kernel_rfl⟩
instance : Sx.TyZ Try.prog 9 (.string ⟨#[]⟩) 1 16 := ⟨by kernel_rfl⟩
instance : Sx.TyKd Try.prog 9 .str := ⟨by kernel_rfl⟩
instance : Sx.TyE Try.prog 22 25 := ⟨by kernel_rfl⟩
instance : Sx.TyF Try.prog 25 false 1 := ⟨by kernel_rfl, by kernel_rfl⟩
instance : Sx.TyZ Try.prog 25 (.slice none 0 0) 1 24 := ⟨by kernel_rfl⟩
instance : Sx.TyE Try.prog 25 44 := ⟨by kernel_rfl⟩
instance : Sx.TyE Try.prog 26 36 := ⟨by kernel_rfl⟩
instance : Sx.TyF Try.prog 27 false 1 := ⟨by kernel_rfl, by kernel_rfl⟩
instance : Sx.TyZ Try.prog 27 (.slice none 0 0) 1 24 := ⟨by kernel_rfl⟩
instance : Sx.TyE Try.prog 27 42 := ⟨by kernel_rfl⟩
instance : Sx.TyF Try.prog 31 false 1 := ⟨by kernel_rfl, by kernel_rfl⟩
instance : Sx.TyE Try.prog 31 34 := ⟨by kernel_rfl⟩
instance : Sx.TyF Try.prog 34 false 1 := ⟨by kernel_rfl, by kernel_rfl⟩
instance : Sx.TyZ Try.prog 34 (.slice none 0 0) 1 24 := ⟨by kernel_rfl⟩
instance : Sx.TyE Try.prog 34 3 := ⟨by kernel_rfl⟩
instance : Sx.TyF Try.prog 36 true 2 := ⟨by kernel_rfl, by kernel_rfl⟩
instance : Sx.TyZ Try.prog 36 (.agg ((.slice none 0 0) :: (.slice none 0 0) :: []).toArray) 2 48 := ⟨by kernel_rfl⟩
instance : Sx.TyFld Try.prog 36 0 0 27 := ⟨Sx.fld_s (by kernel_rfl)⟩
instance : Sx.TyFld Try.prog 36 1 1 34 := ⟨Sx.fld_s (by kernel_rfl)⟩
instance : Sx.TyF Try.prog 40 false 1 := ⟨by kernel_rfl, by kernel_rfl⟩
instance : Sx.TyE Try.prog 40 5 := ⟨by kernel_rfl⟩
instance : Sx.TyF Try.prog 42 true 2 := ⟨by kernel_rfl, by kernel_rfl⟩
instance : Sx.TyZ Try.prog 42 (.agg ((.string ⟨#[]⟩) :: (.slice none 0 0) :: []).toArray) 2 40 := ⟨by kernel_rfl⟩
instance : Sx.TyFld Try.prog 42 0 0 9 := ⟨Sx.fld_s (by kernel_rfl)⟩
instance : Sx.TyFld Try.prog 42 1 1 40 := ⟨Sx.fld_s (by kernel_rfl)⟩
instance : Sx.TyF Try.prog 44 true 3 := ⟨by kernel_rfl, by kernel_rfl⟩
instance : Sx.TyZ Try.prog 44 (.agg ((.string ⟨#[]⟩) :: (.bool false) :: (.slice none 0 0) :: []).toArray) 3 48 := ⟨by kernel_rfl⟩
instance : Sx.TyFld Try.prog 44 0 0 9 := ⟨Sx.fld_s (by kernel_rfl)⟩
instance : Sx.TyFld Try.prog 44 1 1 4 := ⟨Sx.fld_s (by kernel_rfl)⟩
instance : Sx.TyFld Try.prog 44 2 2 40 := ⟨Sx.fld_s (by kernel_rfl)⟩
instance : Sx.TyF Try.prog 49 false 1 := ⟨by kernel_rfl, by kernel_rfl⟩
instance : Sx.TyE Try.prog 49 42 := ⟨by kernel_rfl⟩
instance : Sx.TyF Try.prog 51 true 1 := ⟨by kernel_rfl, by kernel_rfl⟩
instance : Sx.TyZ Try.prog 51 (.agg ((.slice none 0 0) :: []).toArray) 1 24 := ⟨by kernel_rfl⟩
instance : Sx.TyFld Try.prog 51 0 0 49 := ⟨Sx.fld_s (by kernel_rfl)⟩
instance : Sx.TyZ Try.prog 58 (.agg ((.slice none 0 0) :: (.slice none 0 0) :: (.int .i64 0) :: []).toArray) 3 56 := ⟨by kernel_rfl⟩
instance : Sx.TyFld Try.prog 58 0 0 31 := ⟨Sx.fld_s (by kernel_rfl)⟩
instance : Sx.TyFld Try.prog 58 1 1 27 := ⟨Sx.fld_s (by kernel_rfl)⟩
instance : Sx.TyFld Try.prog 58 2 2 3 := ⟨Sx.fld_s (by kernel_rfl)⟩
instance : Sx.TyF Try.prog 59 false 1 := ⟨by kernel_rfl, by kernel_rfl⟩
instance : Sx.TyZ Try.prog 59 (.map none) 1 8 := ⟨by kernel_rfl⟩
instance : Sx.TyF Try.prog 66 false 1 := ⟨by kernel_rfl, by kernel_rfl⟩
instance : Sx.TyF Try.prog 68 true 3 := ⟨by kernel_rfl, by kernel_rfl⟩
instance : Sx.TyZ Try.prog 68 (.agg ((.slice none 0 0) :: (.slice none 0 0) :: (.map none) :: []).toArray) 3 56 := ⟨by kernel_rfl⟩
instance : Sx.TyFld Try.prog 68 0 0 36 := ⟨Sx.fld_s (by kernel_rfl)⟩
instance : Sx.TyFld Try.prog 68 1 2 66 := ⟨Sx.fld_s (by kernel_rfl)⟩
instance : Sx.TyF Try.prog 74 false 1 := ⟨by kernel_rfl, by kernel_rfl⟩
instance : Sx.TyF Try.prog 80 false 1 := ⟨by kernel_rfl, by kernel_rfl⟩
instance : Sx.TyF Try.prog 86 false 1 := ⟨by kernel_rfl, by kernel_rfl⟩
instance : Sx.TyKd Try.prog 97 (.int .u64) := ⟨by kernel_rfl⟩
end Go.Proofs.Ytmnehdpclnhmbaa
