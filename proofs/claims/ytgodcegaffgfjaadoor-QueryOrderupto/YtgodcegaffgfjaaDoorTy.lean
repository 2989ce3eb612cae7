
/- What the types are: facts by evaluation. -/
import Derived.Test.YtgodcegaffgfjaaDoorGo
import Derived.Test.YtgodcegaffgfjaaDoorProg
namespace Go.Proofs.YtgodcegaffgfjaaDoor
open Go.RowKit
instance : Sx.TyPl Tryd.prog 30 [(0, 1), (1, 1), (2, 1)] := ⟨Sx.pl_s (by kernel_rfl)⟩
instance : Sx.TyKd Tryd.prog 2 (.int .i64) := ⟨by kernel_rfl⟩
instance : Sx.TyKd Tryd.prog 3 (.int .i64) := ⟨by kernel_rfl⟩
instance : Sx.TyF Tryd.prog 4 false 1 := ⟨by kernel_rfl, by kernel_rfl⟩
instance : Sx.TyZ Tryd.prog 4 (.bool false) 1 1 := ⟨by kernel_rfl⟩
instance : Sx.TyKd Tryd.prog 4 .bool := ⟨by kernel_rfl⟩
instance : Sx.TyF Tryd.prog 5 false 1 := ⟨by kernel_rfl, by kernel_rfl⟩
instance : Sx.TyZ Tryd.prog 5 (.int .u8 0) 1 1 := ⟨by kernel_rfl⟩
instance : Sx.TyKd Tryd.prog 5 (.int .u8) := ⟨by kernel_rfl⟩
instance : Sx.TyF Tryd.prog 9 false 1 := ⟨by kernel_rfl, by kernel_rfl⟩
instance : Sx.TyZ Tryd.prog 9 (.string ⟨#[]⟩) 1 16 := ⟨by kernel_rfl⟩
instance : Sx.TyKd Tryd.prog 9 .str := ⟨by kernel_rfl⟩
instance : Sx.TyF Tryd.prog 22 false 1 := ⟨by kernel_rfl, by kernel_rfl⟩
instance : Sx.TyE Tryd.prog 22 30 := ⟨by kernel_rfl⟩
instance : Sx.TyF Tryd.prog 23 false 1 := ⟨by kernel_rfl, by kernel_rfl⟩
instance : Sx.TyZ Tryd.prog 23 (.slice none 0 0) 1 24 := ⟨by kernel_rfl⟩
instance : Sx.TyE Tryd.prog 23 9 := ⟨by kernel_rfl⟩
instance : Sx.TyF Tryd.prog 28 false 1 := ⟨by kernel_rfl, by kernel_rfl⟩
instance : Sx.TyF Tryd.prog 30 true 3 := ⟨by kernel_rfl, by kernel_rfl⟩
instance : Sx.TyZ Tryd.prog 30 (.agg ((.int .i64 0) :: (.slice none 0 0) :: (.slice none 0 0) :: []).toArray) 3 56 := ⟨by kernel_rfl⟩
instance : Sx.TyFld Tryd.prog 30 0 0 28 := ⟨Sx.fld_s (by kernel_rfl)⟩
instance : Sx.TyFld Tryd.prog 30 1 1 23 := ⟨Sx.fld_s (by kernel_rfl)⟩
instance : Sx.TyFld Tryd.prog 30 2 2 22 := ⟨Sx.fld_s (by kernel_rfl)⟩
instance : Sx.TyF Tryd.prog 42 false 1 := ⟨by kernel_rfl, by kernel_rfl⟩
instance : Sx.TyF Tryd.prog 45 true 2 := ⟨by kernel_rfl, by kernel_rfl⟩
instance : Sx.TyFld Tryd.prog 45 0 0 23 := ⟨Sx.fld_s (by kernel_rfl)⟩
instance : Sx.TyFld Tryd.prog 45 1 1 22 := ⟨Sx.fld_s (by kernel_rfl)⟩
instance : Sx.TyZ Tryd.prog 47 (.agg ((.slice none 0 0) :: (.slice none 0 0) :: []).toArray) 2 48 := ⟨by kernel_rfl⟩
instance : Sx.TyFld Tryd.prog 47 0 0 45 := ⟨Sx.fld_s (by kernel_rfl)⟩
instance : Sx.TyF Tryd.prog 68 false 1 := ⟨by kernel_rfl, by kernel_rfl⟩
instance : Sx.TyKd Tryd.prog 68 .ptr := ⟨by kernel_rfl⟩
instance : Sx.TyF Tryd.prog 69 false 1 := ⟨by kernel_rfl, by kernel_rfl⟩
instance : Sx.TyE Tryd.prog 69 5 := ⟨by kernel_rfl⟩
instance : Sx.TyF Tryd.prog 71 true 2 := ⟨by kernel_rfl, by kernel_rfl⟩
instance : Sx.TyZ Tryd.prog 71 (.agg ((.pointer none) :: (.slice none 0 0) :: []).toArray) 2 32 := ⟨by kernel_rfl⟩
instance : Sx.TyFld Tryd.prog 71 1 1 69 := ⟨Sx.fld_s (by kernel_rfl)⟩
instance : Sx.TyKd Tryd.prog 83 (.int .u64) := ⟨by kernel_rfl⟩
instance : Sx.TyKd Tryd.prog 98 (.int .u64) := ⟨by kernel_rfl⟩
end Go.Proofs.YtgodcegaffgfjaaDoor
