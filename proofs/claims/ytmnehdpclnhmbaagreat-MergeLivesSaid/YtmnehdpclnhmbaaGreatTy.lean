
/- What the types are: facts by evaluation. -/
import Derived.Test.YtmnehdpclnhmbaaGreatGo
import Derived.Test.YtmnehdpclnhmbaaGreatProg
namespace Go.Proofs.YtmnehdpclnhmbaaGreat
open Go.RowKit
instance : Sx.TyPl Tryz.prog 38 [(0, 1), (1, 1)] := ⟨Sx.pl_s (by kernel_rfl)⟩
instance : Sx.TyPl Tryz.prog 45 [(0, 1), (1, 1)] := ⟨Sx.pl_s (by kernel_rfl)⟩
instance : Sx.TyPl Tryz.prog 47 [(0, 1), (1, 1), (2, 1)] := ⟨Sx.pl_s (by kernel_rfl)⟩
instance : Sx.TyPl Tryz.prog 55 [(0, 2), (2, 1)] := ⟨Sx.pl_s (by kernel_rfl)⟩
instance : Sx.TyPl Tryz.prog 71 [(0, 1)] := ⟨Sx.pl_s (by kernel_rfl)⟩
instance : Sx.TyF Tryz.prog 3 false 1 := ⟨by kernel_rfl, by kernel_rfl⟩
instance : Sx.TyZ Tryz.prog 3 (.int .i64 0) 1 8 := ⟨by kernel_rfl⟩
instance : Sx.TyKd Tryz.prog 3 (.int .i64) := ⟨by kernel_rfl⟩
instance : Sx.TyF Tryz.prog 4 false 1 := ⟨by kernel_rfl, by kernel_rfl⟩
instance : Sx.TyZ Tryz.prog 4 (.bool false) 1 1 := ⟨by kernel_rfl⟩
instance : Sx.TyF Tryz.prog 5 false 1 := ⟨by kernel_rfl, by kernel_rfl⟩
instance : Sx.TyZ Tryz.prog 5 (.int .u8 0) 1 1 := ⟨by kernel_rfl⟩
instance : Sx.TyF Tryz.prog 9 false 1 := ⟨by kernel_rfl, by kernel_rfl⟩
instance : Sx.TyZ Tryz.prog 9 (.string ⟨#[]⟩) 1 16 := ⟨by kernel_rfl⟩
instance : Sx.TyKd Tryz.prog 9 .str := ⟨by kernel_rfl⟩
instance : Sx.TyE Tryz.prog 22 38 := ⟨by kernel_rfl⟩
instance : Sx.TyF Tryz.prog 23 false 1 := ⟨by kernel_rfl, by kernel_rfl⟩
instance : Sx.TyZ Tryz.prog 23 (.slice none 0 0) 1 24 := ⟨by kernel_rfl⟩
instance : Sx.TyE Tryz.prog 23 47 := ⟨by kernel_rfl⟩
instance : Sx.TyF Tryz.prog 28 false 1 := ⟨by kernel_rfl, by kernel_rfl⟩
instance : Sx.TyZ Tryz.prog 28 (.slice none 0 0) 1 24 := ⟨by kernel_rfl⟩
instance : Sx.TyE Tryz.prog 28 45 := ⟨by kernel_rfl⟩
instance : Sx.TyF Tryz.prog 33 false 1 := ⟨by kernel_rfl, by kernel_rfl⟩
instance : Sx.TyE Tryz.prog 33 36 := ⟨by kernel_rfl⟩
instance : Sx.TyF Tryz.prog 36 false 1 := ⟨by kernel_rfl, by kernel_rfl⟩
instance : Sx.TyZ Tryz.prog 36 (.slice none 0 0) 1 24 := ⟨by kernel_rfl⟩
instance : Sx.TyE Tryz.prog 36 3 := ⟨by kernel_rfl⟩
instance : Sx.TyF Tryz.prog 38 true 2 := ⟨by kernel_rfl, by kernel_rfl⟩
instance : Sx.TyZ Tryz.prog 38 (.agg ((.slice none 0 0) :: (.slice none 0 0) :: []).toArray) 2 48 := ⟨by kernel_rfl⟩
instance : Sx.TyFld Tryz.prog 38 0 0 28 := ⟨Sx.fld_s (by kernel_rfl)⟩
instance : Sx.TyFld Tryz.prog 38 1 1 36 := ⟨Sx.fld_s (by kernel_rfl)⟩
instance : Sx.TyF Tryz.prog 43 false 1 := ⟨by kernel_rfl, by kernel_rfl⟩
instance : Sx.TyE Tryz.prog 43 5 := ⟨by kernel_rfl⟩
instance : Sx.TyF Tryz.prog 45 true 2 := ⟨by kernel_rfl, by kernel_rfl⟩
instance : Sx.TyZ Tryz.prog 45 (.agg ((.string ⟨#[]⟩) :: (.slice none 0 0) :: []).toArray) 2 40 := ⟨by kernel_rfl⟩
instance : Sx.TyFld Tryz.prog 45 0 0 9 := ⟨Sx.fld_s (by kernel_rfl)⟩
instance : Sx.TyFld Tryz.prog 45 1 1 43 := ⟨Sx.fld_s (by kernel_rfl)⟩
instance : Sx.TyF Tryz.prog 47 true 3 := ⟨by kernel_rfl, by kernel_rfl⟩
instance : Sx.TyZ Tryz.prog 47 (.agg ((.string ⟨#[]⟩) :: (.bool false) :: (.slice none 0 0) :: []).toArray) 3 48 := ⟨by kernel_rfl⟩
instance : Sx.TyFld Tryz.prog 47 0 0 9 := ⟨Sx.fld_s (by kernel_rfl)⟩
instance : Sx.TyFld Tryz.prog 47 1 1 4 := ⟨Sx.fld_s (by kernel_rfl)⟩
instance : Sx.TyFld Tryz.prog 47 2 2 43 := ⟨Sx.fld_s (by kernel_rfl)⟩
instance : Sx.TyF Tryz.prog 50 false 1 := ⟨by kernel_rfl, by kernel_rfl⟩
instance : Sx.TyZ Tryz.prog 50 (.map none) 1 8 := ⟨by kernel_rfl⟩
instance : Sx.TyF Tryz.prog 53 false 1 := ⟨by kernel_rfl, by kernel_rfl⟩
instance : Sx.TyF Tryz.prog 55 true 3 := ⟨by kernel_rfl, by kernel_rfl⟩
instance : Sx.TyZ Tryz.prog 55 (.agg ((.slice none 0 0) :: (.slice none 0 0) :: (.map none) :: []).toArray) 3 56 := ⟨by kernel_rfl⟩
instance : Sx.TyFld Tryz.prog 55 0 0 38 := ⟨Sx.fld_s (by kernel_rfl)⟩
instance : Sx.TyFld Tryz.prog 55 1 2 53 := ⟨Sx.fld_s (by kernel_rfl)⟩
instance : Sx.TyF Tryz.prog 69 false 1 := ⟨by kernel_rfl, by kernel_rfl⟩
instance : Sx.TyE Tryz.prog 69 45 := ⟨by kernel_rfl⟩
instance : Sx.TyF Tryz.prog 71 true 1 := ⟨by kernel_rfl, by kernel_rfl⟩
instance : Sx.TyZ Tryz.prog 71 (.agg ((.slice none 0 0) :: []).toArray) 1 24 := ⟨by kernel_rfl⟩
instance : Sx.TyFld Tryz.prog 71 0 0 69 := ⟨Sx.fld_s (by kernel_rfl)⟩
instance : Sx.TyZ Tryz.prog 76 (.agg ((.slice none 0 0) :: (.slice none 0 0) :: (.int .i64 0) :: []).toArray) 3 56 := ⟨by kernel_rfl⟩
instance : Sx.TyFld Tryz.prog 76 0 0 33 := ⟨Sx.fld_s (by kernel_rfl)⟩
instance : Sx.TyFld Tryz.prog 76 1 1 28 := ⟨Sx.fld_s (by kernel_rfl)⟩
instance : Sx.TyFld Tryz.prog 76 2 2 3 := ⟨Sx.fld_s (by kernel_rfl)⟩
instance : Sx.TyKd Tryz.prog 86 (.int .u64) := ⟨by kernel_rfl⟩
instance : Sx.TyF Tryz.prog 88 false 1 := ⟨by kernel_rfl, by kernel_rfl⟩
instance : Sx.TyF Tryz.prog 94 false 1 := ⟨by kernel_rfl, by kernel_rfl⟩
instance : Sx.TyF Tryz.prog 95 false 1 := ⟨by kernel_rfl, by kernel_rfl⟩
end Go.Proofs.YtmnehdpclnhmbaaGreat
