/- slices.IndexFunc, slices.ContainsFunc at a function that is a variable. -/
import Derived.Test.YtohpeoakdgckfaaGreatGo
import Derived.Test.YtohpeoakdgckfaaGreatProg
import Derived.Test.YtohpeoakdgckfaaGreatSx
set_option maxHeartbeats 400000
namespace Go.Proofs.YtohpeoakdgckfaaGreat
open Go.RowKit
instance:Sx.TyPl Tryz.prog 45 [(0,1),(1,1)]:=⟨Sx.pl_s (by kernel_rfl)⟩
instance:Sx.TyPl Tryz.prog 50 [(0,1),(1,1)]:=⟨Sx.pl_s (by kernel_rfl)⟩
instance:Sx.TyPl Tryz.prog 54 [(0,1)]:=⟨Sx.pl_s (by kernel_rfl)⟩
instance:Sx.TyPl Tryz.prog 85 [(0,1),(1,1)]:=⟨Sx.pl_s (by kernel_rfl)⟩
instance:Sx.TyPl Tryz.prog 110 [(0,1),(1,1),(2,1),(3,1),(4,1),(5,1),(6,1),(7,1),(8,1),(9,1),(10,1),(11,1),(12,1),(13,1),(14,1),(15,1),(16,1),(17,1),(18,1),(19,1),(20,1)]:=⟨Sx.pl_s (by kernel_rfl)⟩
instance:Sx.TyPl Tryz.prog 114 [(0,1),(1,1),(2,1)]:=⟨Sx.pl_s (by kernel_rfl)⟩
instance:Sx.TyPl Tryz.prog 119 [(0,1),(1,1),(2,1),(3,1)]:=⟨Sx.pl_s (by kernel_rfl)⟩
instance:Sx.TyPl Tryz.prog 129 [(0,1),(1,1),(2,1)]:=⟨Sx.pl_s (by kernel_rfl)⟩
instance:Sx.TyPl Tryz.prog 145 [(0,1),(1,1)]:=⟨Sx.pl_s (by kernel_rfl)⟩
instance:Sx.TyPl Tryz.prog 149 [(0,1),(1,1)]:=⟨Sx.pl_s (by kernel_rfl)⟩
instance:Sx.TyPl Tryz.prog 295 [(0,1),(1,1)]:=⟨Sx.pl_s (by kernel_rfl)⟩
instance:Sx.TyPl Tryz.prog 334 [(0,1),(1,1)]:=⟨Sx.pl_s (by kernel_rfl)⟩
instance:Sx.TyPl Tryz.prog 338 [(0,1),(1,1),(2,1)]:=⟨Sx.pl_s (by kernel_rfl)⟩
instance:Sx.TyF Tryz.prog 3 false 1:=⟨by kernel_rfl,by kernel_rfl⟩
instance:Sx.TyZ Tryz.prog 3 (.int .i64 0) 1 8:=⟨by kernel_rfl⟩
instance:Sx.TyKd Tryz.prog 3 (.int .i64):=⟨by kernel_rfl⟩
instance:Sx.TyF Tryz.prog 4 false 1:=⟨by kernel_rfl,by kernel_rfl⟩
instance:Sx.TyZ Tryz.prog 4 (.bool false) 1 1:=⟨by kernel_rfl⟩
instance:Sx.TyKd Tryz.prog 4 .bool:=⟨by kernel_rfl⟩
instance:Sx.TyF Tryz.prog 5 false 1:=⟨by kernel_rfl,by kernel_rfl⟩
instance:Sx.TyZ Tryz.prog 5 (.int .u8 0) 1 1:=⟨by kernel_rfl⟩
instance:Sx.TyKd Tryz.prog 5 (.int .u8):=⟨by kernel_rfl⟩
instance:Sx.TyF Tryz.prog 9 false 1:=⟨by kernel_rfl,by kernel_rfl⟩
instance:Sx.TyZ Tryz.prog 9 (.string ⟨#[]⟩) 1 16:=⟨by kernel_rfl⟩
instance:Sx.TyKd Tryz.prog 9 .str:=⟨by kernel_rfl⟩
instance:Sx.TyF Tryz.prog 22 false 1:=⟨by kernel_rfl,by kernel_rfl⟩
instance:Sx.TyZ Tryz.prog 22 (.slice none 0 0) 1 24:=⟨by kernel_rfl⟩
instance:Sx.TyE Tryz.prog 22 45:=⟨by kernel_rfl⟩
instance:Sx.TyF Tryz.prog 26 false 1:=⟨by kernel_rfl,by kernel_rfl⟩
instance:Sx.TyZ Tryz.prog 26 (.slice none 0 0) 1 24:=⟨by kernel_rfl⟩
instance:Sx.TyE Tryz.prog 26 5:=⟨by kernel_rfl⟩
instance:Sx.TyF Tryz.prog 27 false 1:=⟨by kernel_rfl,by kernel_rfl⟩
instance:Sx.TyZ Tryz.prog 27 (.int .i64 0) 1 8:=⟨by kernel_rfl⟩
instance:Sx.TyF Tryz.prog 34 false 1:=⟨by kernel_rfl,by kernel_rfl⟩
instance:Sx.TyZ Tryz.prog 34 (.slice none 0 0) 1 24:=⟨by kernel_rfl⟩
instance:Sx.TyE Tryz.prog 34 26:=⟨by kernel_rfl⟩
instance:Sx.TyKd Tryz.prog 37 .ptr:=⟨by kernel_rfl⟩
instance:Sx.TyF Tryz.prog 45 true 2:=⟨by kernel_rfl,by kernel_rfl⟩
instance:Sx.TyZ Tryz.prog 45 (.agg ((.string ⟨#[]⟩)::(.slice none 0 0)::[]).toArray) 2 40:=⟨by kernel_rfl⟩
instance:Sx.TyFld Tryz.prog 45 0 0 9:=⟨Sx.fld_s (by kernel_rfl)⟩
instance:Sx.TyFld Tryz.prog 45 1 1 26:=⟨Sx.fld_s (by kernel_rfl)⟩
instance:Sx.TyF Tryz.prog 46 false 1:=⟨by kernel_rfl,by kernel_rfl⟩
instance:Sx.TyZ Tryz.prog 46 (.slice none 0 0) 1 24:=⟨by kernel_rfl⟩
instance:Sx.TyE Tryz.prog 46 50:=⟨by kernel_rfl⟩
instance:Sx.TyF Tryz.prog 50 true 2:=⟨by kernel_rfl,by kernel_rfl⟩
instance:Sx.TyZ Tryz.prog 50 (.agg ((.int .u8 0)::(.slice none 0 0)::[]).toArray) 2 32:=⟨by kernel_rfl⟩
instance:Sx.TyFld Tryz.prog 50 0 0 5:=⟨Sx.fld_s (by kernel_rfl)⟩
instance:Sx.TyFld Tryz.prog 50 1 1 26:=⟨Sx.fld_s (by kernel_rfl)⟩
instance:Sx.TyF Tryz.prog 52 false 1:=⟨by kernel_rfl,by kernel_rfl⟩
instance:Sx.TyKd Tryz.prog 52 .ptr:=⟨by kernel_rfl⟩
instance:Sx.TyZ Tryz.prog 54 (.agg ((.pointer none)::[]).toArray) 1 8:=⟨by kernel_rfl⟩
instance:Sx.TyFld Tryz.prog 54 0 0 52:=⟨Sx.fld_s (by kernel_rfl)⟩
instance:Sx.TyF Tryz.prog 55 false 1:=⟨by kernel_rfl,by kernel_rfl⟩
instance:Sx.TyKd Tryz.prog 55 (.int .u32):=⟨by kernel_rfl⟩
instance:Sx.TyF Tryz.prog 60 false 1:=⟨by kernel_rfl,by kernel_rfl⟩
instance:Sx.TyZ Tryz.prog 60 (.slice none 0 0) 1 24:=⟨by kernel_rfl⟩
instance:Sx.TyE Tryz.prog 60 3:=⟨by kernel_rfl⟩
instance:Sx.TyF Tryz.prog 62 false 1:=⟨by kernel_rfl,by kernel_rfl⟩
instance:Sx.TyZ Tryz.prog 62 (.slice none 0 0) 1 24:=⟨by kernel_rfl⟩
instance:Sx.TyE Tryz.prog 62 149:=⟨by kernel_rfl⟩
instance:Sx.TyF Tryz.prog 66 false 1:=⟨by kernel_rfl,by kernel_rfl⟩
instance:Sx.TyZ Tryz.prog 66 (.slice none 0 0) 1 24:=⟨by kernel_rfl⟩
instance:Sx.TyE Tryz.prog 66 119:=⟨by kernel_rfl⟩
instance:Sx.TyZ Tryz.prog 70 (.agg ((.slice none 0 0)::(.bool false)::[]).toArray) 2 32:=⟨by kernel_rfl⟩
instance:Sx.TyFld Tryz.prog 70 1 1 4:=⟨Sx.fld_s (by kernel_rfl)⟩
instance:Sx.TyF Tryz.prog 75 false 1:=⟨by kernel_rfl,by kernel_rfl⟩
instance:Sx.TyZ Tryz.prog 75 (.slice none 0 0) 1 24:=⟨by kernel_rfl⟩
instance:Sx.TyE Tryz.prog 75 145:=⟨by kernel_rfl⟩
instance:Sx.TyZ Tryz.prog 85 (.agg ((.slice none 0 0)::(.bool false)::[]).toArray) 2 32:=⟨by kernel_rfl⟩
instance:Sx.TyFld Tryz.prog 85 0 0 26:=⟨Sx.fld_s (by kernel_rfl)⟩
instance:Sx.TyF Tryz.prog 89 false 1:=⟨by kernel_rfl,by kernel_rfl⟩
instance:Sx.TyE Tryz.prog 89 231:=⟨by kernel_rfl⟩
instance:Sx.TyF Tryz.prog 90 false 1:=⟨by kernel_rfl,by kernel_rfl⟩
instance:Sx.TyE Tryz.prog 90 232:=⟨by kernel_rfl⟩
instance:Sx.TyF Tryz.prog 91 false 1:=⟨by kernel_rfl,by kernel_rfl⟩
instance:Sx.TyE Tryz.prog 91 60:=⟨by kernel_rfl⟩
instance:Sx.TyF Tryz.prog 92 false 1:=⟨by kernel_rfl,by kernel_rfl⟩
instance:Sx.TyE Tryz.prog 92 233:=⟨by kernel_rfl⟩
instance:Sx.TyF Tryz.prog 93 false 1:=⟨by kernel_rfl,by kernel_rfl⟩
instance:Sx.TyE Tryz.prog 93 165:=⟨by kernel_rfl⟩
instance:Sx.TyF Tryz.prog 94 false 1:=⟨by kernel_rfl,by kernel_rfl⟩
instance:Sx.TyE Tryz.prog 94 234:=⟨by kernel_rfl⟩
instance:Sx.TyF Tryz.prog 95 false 1:=⟨by kernel_rfl,by kernel_rfl⟩
instance:Sx.TyE Tryz.prog 95 235:=⟨by kernel_rfl⟩
instance:Sx.TyF Tryz.prog 96 false 1:=⟨by kernel_rfl,by kernel_rfl⟩
instance:Sx.TyE Tryz.prog 96 243:=⟨by kernel_rfl⟩
instance:Sx.TyF Tryz.prog 97 false 1:=⟨by kernel_rfl,by kernel_rfl⟩
instance:Sx.TyE Tryz.prog 97 248:=⟨by kernel_rfl⟩
instance:Sx.TyF Tryz.prog 98 false 1:=⟨by kernel_rfl,by kernel_rfl⟩
instance:Sx.TyE Tryz.prog 98 22:=⟨by kernel_rfl⟩
instance:Sx.TyF Tryz.prog 99 false 1:=⟨by kernel_rfl,by kernel_rfl⟩
instance:Sx.TyE Tryz.prog 99 66:=⟨by kernel_rfl⟩
instance:Sx.TyF Tryz.prog 100 false 1:=⟨by kernel_rfl,by kernel_rfl⟩
instance:Sx.TyE Tryz.prog 100 62:=⟨by kernel_rfl⟩
instance:Sx.TyF Tryz.prog 101 false 1:=⟨by kernel_rfl,by kernel_rfl⟩
instance:Sx.TyE Tryz.prog 101 75:=⟨by kernel_rfl⟩
instance:Sx.TyF Tryz.prog 102 false 1:=⟨by kernel_rfl,by kernel_rfl⟩
instance:Sx.TyE Tryz.prog 102 258:=⟨by kernel_rfl⟩
instance:Sx.TyF Tryz.prog 103 false 1:=⟨by kernel_rfl,by kernel_rfl⟩
instance:Sx.TyE Tryz.prog 103 263:=⟨by kernel_rfl⟩
instance:Sx.TyF Tryz.prog 104 false 1:=⟨by kernel_rfl,by kernel_rfl⟩
instance:Sx.TyE Tryz.prog 104 268:=⟨by kernel_rfl⟩
instance:Sx.TyF Tryz.prog 105 false 1:=⟨by kernel_rfl,by kernel_rfl⟩
instance:Sx.TyE Tryz.prog 105 275:=⟨by kernel_rfl⟩
instance:Sx.TyF Tryz.prog 106 false 1:=⟨by kernel_rfl,by kernel_rfl⟩
instance:Sx.TyE Tryz.prog 106 279:=⟨by kernel_rfl⟩
instance:Sx.TyF Tryz.prog 107 false 1:=⟨by kernel_rfl,by kernel_rfl⟩
instance:Sx.TyE Tryz.prog 107 46:=⟨by kernel_rfl⟩
instance:Sx.TyF Tryz.prog 108 false 1:=⟨by kernel_rfl,by kernel_rfl⟩
instance:Sx.TyE Tryz.prog 108 286:=⟨by kernel_rfl⟩
instance:Sx.TyZ Tryz.prog 110 (.agg ((.slice none 0 0)::(.slice none 0 0)::(.slice none 0 0)::(.slice none 0 0)::(.slice none 0 0)::(.slice none 0 0)::(.slice none 0 0)::(.slice none 0 0)::(.slice none 0 0)::(.slice none 0 0)::(.slice none 0 0)::(.slice none 0 0)::(.slice none 0 0)::(.slice none 0 0)::(.slice none 0 0)::(.slice none 0 0)::(.slice none 0 0)::(.slice none 0 0)::(.slice none 0 0)::(.slice none 0 0)::(.slice none 0 0)::[]).toArray) 21 504:=⟨by kernel_rfl⟩
instance:Sx.TyFld Tryz.prog 110 0 0 89:=⟨Sx.fld_s (by kernel_rfl)⟩
instance:Sx.TyFld Tryz.prog 110 1 1 90:=⟨Sx.fld_s (by kernel_rfl)⟩
instance:Sx.TyFld Tryz.prog 110 2 2 91:=⟨Sx.fld_s (by kernel_rfl)⟩
instance:Sx.TyFld Tryz.prog 110 3 3 92:=⟨Sx.fld_s (by kernel_rfl)⟩
instance:Sx.TyFld Tryz.prog 110 4 4 93:=⟨Sx.fld_s (by kernel_rfl)⟩
instance:Sx.TyFld Tryz.prog 110 5 5 34:=⟨Sx.fld_s (by kernel_rfl)⟩
instance:Sx.TyFld Tryz.prog 110 6 6 94:=⟨Sx.fld_s (by kernel_rfl)⟩
instance:Sx.TyFld Tryz.prog 110 7 7 95:=⟨Sx.fld_s (by kernel_rfl)⟩
instance:Sx.TyFld Tryz.prog 110 8 8 96:=⟨Sx.fld_s (by kernel_rfl)⟩
instance:Sx.TyFld Tryz.prog 110 9 9 97:=⟨Sx.fld_s (by kernel_rfl)⟩
instance:Sx.TyFld Tryz.prog 110 10 10 98:=⟨Sx.fld_s (by kernel_rfl)⟩
instance:Sx.TyFld Tryz.prog 110 11 11 99:=⟨Sx.fld_s (by kernel_rfl)⟩
instance:Sx.TyFld Tryz.prog 110 12 12 100:=⟨Sx.fld_s (by kernel_rfl)⟩
instance:Sx.TyFld Tryz.prog 110 13 13 101:=⟨Sx.fld_s (by kernel_rfl)⟩
instance:Sx.TyFld Tryz.prog 110 14 14 102:=⟨Sx.fld_s (by kernel_rfl)⟩
instance:Sx.TyFld Tryz.prog 110 15 15 103:=⟨Sx.fld_s (by kernel_rfl)⟩
instance:Sx.TyFld Tryz.prog 110 16 16 104:=⟨Sx.fld_s (by kernel_rfl)⟩
instance:Sx.TyFld Tryz.prog 110 17 17 105:=⟨Sx.fld_s (by kernel_rfl)⟩
instance:Sx.TyFld Tryz.prog 110 18 18 106:=⟨Sx.fld_s (by kernel_rfl)⟩
instance:Sx.TyFld Tryz.prog 110 19 19 107:=⟨Sx.fld_s (by kernel_rfl)⟩
instance:Sx.TyFld Tryz.prog 110 20 20 108:=⟨Sx.fld_s (by kernel_rfl)⟩
instance:Sx.TyF Tryz.prog 114 true 3:=⟨by kernel_rfl,by kernel_rfl⟩
instance:Sx.TyZ Tryz.prog 114 (.agg ((.slice none 0 0)::(.slice none 0 0)::(.slice none 0 0)::[]).toArray) 3 72:=⟨by kernel_rfl⟩
instance:Sx.TyFld Tryz.prog 114 0 0 66:=⟨Sx.fld_s (by kernel_rfl)⟩
instance:Sx.TyFld Tryz.prog 114 1 1 22:=⟨Sx.fld_s (by kernel_rfl)⟩
instance:Sx.TyFld Tryz.prog 114 2 2 75:=⟨Sx.fld_s (by kernel_rfl)⟩
instance:Sx.TyF Tryz.prog 119 true 4:=⟨by kernel_rfl,by kernel_rfl⟩
instance:Sx.TyZ Tryz.prog 119 (.agg ((.string ⟨#[]⟩)::(.string ⟨#[]⟩)::(.int .u32 0)::(.int .i64 0)::[]).toArray) 4 48:=⟨by kernel_rfl⟩
instance:Sx.TyEqS Tryz.prog 119 [(0,.str),(1,.str),(2,(.int .u32)),(3,(.int .i64))]:=⟨by kernel_rfl⟩
instance:Sx.TyFld Tryz.prog 119 0 0 9:=⟨Sx.fld_s (by kernel_rfl)⟩
instance:Sx.TyFld Tryz.prog 119 1 1 9:=⟨Sx.fld_s (by kernel_rfl)⟩
instance:Sx.TyFld Tryz.prog 119 2 2 55:=⟨Sx.fld_s (by kernel_rfl)⟩
instance:Sx.TyFld Tryz.prog 119 3 3 3:=⟨Sx.fld_s (by kernel_rfl)⟩
instance:Sx.TyZ Tryz.prog 129 (.agg ((.slice none 0 0)::(.int .i64 0)::(.bool false)::[]).toArray) 3 40:=⟨by kernel_rfl⟩
instance:Sx.TyFld Tryz.prog 129 0 0 26:=⟨Sx.fld_s (by kernel_rfl)⟩
instance:Sx.TyFld Tryz.prog 129 1 1 3:=⟨Sx.fld_s (by kernel_rfl)⟩
instance:Sx.TyFld Tryz.prog 129 2 2 4:=⟨Sx.fld_s (by kernel_rfl)⟩
instance:Sx.TyF Tryz.prog 139 false 1:=⟨by kernel_rfl,by kernel_rfl⟩
instance:Sx.TyF Tryz.prog 145 true 2:=⟨by kernel_rfl,by kernel_rfl⟩
instance:Sx.TyZ Tryz.prog 145 (.agg ((.string ⟨#[]⟩)::(.slice none 0 0)::[]).toArray) 2 40:=⟨by kernel_rfl⟩
instance:Sx.TyFld Tryz.prog 145 0 0 9:=⟨Sx.fld_s (by kernel_rfl)⟩
instance:Sx.TyFld Tryz.prog 145 1 1 62:=⟨Sx.fld_s (by kernel_rfl)⟩
instance:Sx.TyF Tryz.prog 149 true 2:=⟨by kernel_rfl,by kernel_rfl⟩
instance:Sx.TyZ Tryz.prog 149 (.agg ((.int .i64 0)::(.int .i64 0)::[]).toArray) 2 16:=⟨by kernel_rfl⟩
instance:Sx.TyEqS Tryz.prog 149 [(0,(.int .i64)),(1,(.int .i64))]:=⟨by kernel_rfl⟩
instance:Sx.TyFld Tryz.prog 149 0 0 3:=⟨Sx.fld_s (by kernel_rfl)⟩
instance:Sx.TyFld Tryz.prog 149 1 1 3:=⟨Sx.fld_s (by kernel_rfl)⟩
instance:Sx.TyF Tryz.prog 153 false 1:=⟨by kernel_rfl,by kernel_rfl⟩
instance:Sx.TyZ Tryz.prog 165 (.slice none 0 0) 1 24:=⟨by kernel_rfl⟩
instance:Sx.TyE Tryz.prog 165 9:=⟨by kernel_rfl⟩
instance:Sx.TyKd Tryz.prog 190 (.int .u64):=⟨by kernel_rfl⟩
instance:Sx.TyF Tryz.prog 208 true 256:=⟨by kernel_rfl,by kernel_rfl⟩
instance:Sx.TyF Tryz.prog 218 false 1:=⟨by kernel_rfl,by kernel_rfl⟩
instance:Sx.TyZ Tryz.prog 231 (.slice none 0 0) 1 24:=⟨by kernel_rfl⟩
instance:Sx.TyZ Tryz.prog 232 (.slice none 0 0) 1 24:=⟨by kernel_rfl⟩
instance:Sx.TyZ Tryz.prog 233 (.slice none 0 0) 1 24:=⟨by kernel_rfl⟩
instance:Sx.TyZ Tryz.prog 234 (.slice none 0 0) 1 24:=⟨by kernel_rfl⟩
instance:Sx.TyZ Tryz.prog 235 (.slice none 0 0) 1 24:=⟨by kernel_rfl⟩
instance:Sx.TyZ Tryz.prog 243 (.slice none 0 0) 1 24:=⟨by kernel_rfl⟩
instance:Sx.TyZ Tryz.prog 248 (.slice none 0 0) 1 24:=⟨by kernel_rfl⟩
instance:Sx.TyZ Tryz.prog 258 (.slice none 0 0) 1 24:=⟨by kernel_rfl⟩
instance:Sx.TyZ Tryz.prog 263 (.slice none 0 0) 1 24:=⟨by kernel_rfl⟩
instance:Sx.TyZ Tryz.prog 268 (.slice none 0 0) 1 24:=⟨by kernel_rfl⟩
instance:Sx.TyZ Tryz.prog 275 (.slice none 0 0) 1 24:=⟨by kernel_rfl⟩
instance:Sx.TyZ Tryz.prog 279 (.slice none 0 0) 1 24:=⟨by kernel_rfl⟩
instance:Sx.TyZ Tryz.prog 286 (.slice none 0 0) 1 24:=⟨by kernel_rfl⟩
instance:Sx.TyF Tryz.prog 291 false 1:=⟨by kernel_rfl,by kernel_rfl⟩
instance:Sx.TyF Tryz.prog 293 false 1:=⟨by kernel_rfl,by kernel_rfl⟩
instance:Sx.TyZ Tryz.prog 295 (.agg ((.pointer none)::(.slice none 0 0)::[]).toArray) 2 32:=⟨by kernel_rfl⟩
instance:Sx.TyFld Tryz.prog 295 0 0 291:=⟨Sx.fld_s (by kernel_rfl)⟩
instance:Sx.TyFld Tryz.prog 295 1 1 26:=⟨Sx.fld_s (by kernel_rfl)⟩
instance:Sx.TyF Tryz.prog 300 true 1:=⟨by kernel_rfl,by kernel_rfl⟩
instance:Sx.TyZ Tryz.prog 300 (.agg ((.pointer none)::[]).toArray) 1 8:=⟨by kernel_rfl⟩
instance:Sx.TyF Tryz.prog 332 false 1:=⟨by kernel_rfl,by kernel_rfl⟩
instance:Sx.TyZ Tryz.prog 334 (.agg ((.pointer none)::(.bool false)::[]).toArray) 2 16:=⟨by kernel_rfl⟩
instance:Sx.TyFld Tryz.prog 334 0 0 291:=⟨Sx.fld_s (by kernel_rfl)⟩
instance:Sx.TyFld Tryz.prog 334 1 1 4:=⟨Sx.fld_s (by kernel_rfl)⟩
instance:Sx.TyE Tryz.prog 335 338:=⟨by kernel_rfl⟩
instance:Sx.TyF Tryz.prog 338 true 3:=⟨by kernel_rfl,by kernel_rfl⟩
instance:Sx.TyZ Tryz.prog 338 (.agg ((.int .i64 0)::(.int .i64 0)::(.int .i64 0)::[]).toArray) 3 24:=⟨by kernel_rfl⟩
instance:Sx.TyFld Tryz.prog 338 0 0 3:=⟨Sx.fld_s (by kernel_rfl)⟩
instance:Sx.TyFld Tryz.prog 338 1 1 3:=⟨Sx.fld_s (by kernel_rfl)⟩
instance:Sx.TyFld Tryz.prog 338 2 2 3:=⟨Sx.fld_s (by kernel_rfl)⟩
end Go.Proofs.YtohpeoakdgckfaaGreat
namespace Go.Proofs.YtohpeoakdgckfaaGreat
open Go.RowKit Sx
def FstAt (n:Nat) (p:Nat->Bool) (v:Value):Prop:=(∃ k:Nat,k<n/\p k=true/\(∀ j,j<k->p j=false)/\v = .int .i64 k)\/((∀ j,j<n->p j=false)/\v = .int .i64 (-1))
theorem zkt (r:Hp) (v:Value) (n:Nat) (xs:List Value) (fv:Value) (gf:FuncId) (cap:List Value) (H:List Ch) (p:Nat->Bool) (hv:Sl r 1 v n xs) (hfv:fv = .func (.func gf) #[] cap.toArray) (hg:GoesTo Tryz.prog gf)
 (hp : ∀ k u,k<n->xs[k]?=some u->Tri Tryz.prog r gf (u::cap) H fun w H'=>w = .bool (p k)/\H'=H) :
 Tri Tryz.prog r 199 [v,fv] H fun w H'=>FstAt n p w/\H'=H:=by
 obtain ⟨a,c,rfl⟩:=hv.form
 have hn:=hv.2.1
 unfold maxLen at hn
 refine ae Tryz.func199 Tryz.ntmps199 ?_
 repeat' (first|refine ax0m ?_|(refine abb ?_;intro b)|refine ax1m ?_|(refine aac ?_;intro ac cc)|refine ax2m ?_|(refine ap3 ?_ ?_<;>try intro h)|apply True.intro)
 refine z04 (fun g t H' => ∃ k:Nat,g=n+1 - k/\k<=n/\(∀ j,j<k->p j=false)/\H'=H/\(t.length=19/\t[0]?=some (.slice a n c)/\t[1]?=some (fv)/\t[6]?=some (.slice a n c)/\t[7]?=some (.int .i64 n)/\t[8]?=some (.int .i64 k))) (n+1) ⟨0,rfl,Nat.zero_le _,fun j hj=>absurd hj (Nat.not_lt_zero _),rfl,rfl,rfl,rfl,rfl,rfl,rfl⟩ ?_
 rintro g t H' ⟨k,rfl,hk,hall,rfl,hlen,e0,e1,e6,e7,e8⟩
 revert e0 e1 e6 e7 e8;revert t;refine z0s (n:=19) ?_;intro u0 u1 u2 u3 u4 u5 u6 u7 u8 u9 u10 u11 u12 u13 u14 u15 u16 u17 u18 e0 e1 e6 e7 e8;cases e0;cases e1;cases e6;cases e7;cases e8
 have HA:=hid hall
 clear hall
 by_cases hlt:k<n
 · obtain ⟨b,off,u,rfl,hu,hc⟩:=hv.at1 hlt
   have hc':=hc H'
   have HC:=hid (hp k u hlt hu)
   clear hc hp hu
   subst hfv
   repeat' (first|refine ax0m ?_|(refine abb ?_;intro b)|(with_reducible apply z2y (f:=gf) (cap:=cap));exact hg;rfl;rfl;exact HC.out;exact Takes.all;rintro v' H1 ⟨rfl,rfl⟩;rw [List.append_nil];(refine apk ?_)|refine ax1m ?_|(refine aac ?_;intro ac cc)|refine ax2m ?_|(refine ap3 ?_ ?_<;>try intro h)|apply True.intro)
   · (((with_reducible apply z00);exact res_1 rfl rfl);exact ⟨.inl ⟨k,hlt,by assumption,HA.out,rfl⟩,rfl⟩)
   · refine ⟨_,?_,k+1,rfl,by omega,?_,rfl,rfl,rfl,rfl,rfl,rfl,rfl⟩
     · omega
     · intro j hj
       by_cases e:j=k
       · subst e;assumption
       · exact HA.out j (by omega)
 · repeat' (first|refine ax0m ?_|(refine abb ?_;intro b)|refine ax1m ?_|(refine aac ?_;intro ac cc)|refine ax2m ?_|(refine ap3 ?_ ?_<;>try intro h)|apply True.intro)
   (((with_reducible apply z00);exact res_1 rfl rfl);exact ⟨.inr ⟨fun j hj=>HA.out j (by omega),rfl⟩,rfl⟩)
theorem zne (r:Hp) (v:Value) (n:Nat) (xs:List Value) (gf:FuncId) (cap:List Value) (H:List Ch) (p:Nat->Bool) (hv:Sl r 1 v n xs) (hg:GoesTo Tryz.prog gf)
 (hp : ∀ k u,k<n->xs[k]?=some u->Tri Tryz.prog r gf (u::cap) H fun w H'=>w = .bool (p k)/\H'=H) :
 Tri Tryz.prog r 141 [v,.func (.func gf) #[] cap.toArray] H fun w H'=>w = .bool ((List.range n).any p)/\H'=H:=by
 have HC:=hid (zkt r v n xs _ gf cap H p hv rfl hg hp)
 obtain ⟨a,c,rfl⟩:=hv.form
 clear hp hv
 refine ae Tryz.func141 Tryz.ntmps141 ?_
 repeat' (first|refine ax0m ?_|(refine abb ?_;intro b)|(with_reducible apply z2y (f:=199) (cap:=[]));exact z2h Tryz.func199 (by kernel_rfl) rfl;rfl;rfl;exact HC.out;exact Takes.all;rintro v' H1 ⟨⟨k,hk,hp,hall,rfl⟩ | ⟨hall,rfl⟩,rfl⟩;all_goals (rw [List.append_nil];(refine apk ?_))|refine ax1m ?_|(refine aac ?_;intro ac cc)|refine ax2m ?_|(refine ap3 ?_ ?_<;>try intro h)|apply True.intro)
 · ((with_reducible apply z00);exact res_1 rfl rfl)
   have:(List.range n).any p=true:=List.any_eq_true.2 ⟨k,by simpa using hk,hp⟩
   exact ⟨by rw [this],rfl⟩
 · ((with_reducible apply z00);exact res_1 rfl rfl)
   have:(List.range n).any p=false:=by
    rw [List.any_eq_false];intro j hj;rw [hall j (by simpa using hj)];simp
   exact ⟨by rw [this],rfl⟩
end Go.Proofs.YtohpeoakdgckfaaGreat
