/- lang.parts: an iterator over a path's parts; its contract. -/
import Derived.Shelf.Strings.Search1
import Derived.Shelf.Strings.Search2
import Derived.Shelf.Strings.Cut
import Derived.Shelf.LaysM
import Derived.Shelf.Strings.Shaped
import Derived.Shelf.Strings.LastIndex
import Derived.Ground.SlgmProg
import Derived.Shelf.SortM.Plain
import Derived.Shelf.SortM.SortNone
import Derived.Ground.PaProg
import Derived.Shelf.Path.Small
import Derived.Shelf.SlIter.Nil
import Derived.Ground.GgzProg
import Derived.Shelf.SlIter.Sorted
import Derived.Test.YtohpeoakdgckfaaGreatProg
import Derived.Test.YtohpeoakdgckfaaGreatEng
import Derived.WalkSpells
import Derived.WalkLawsBesides
import Derived.BigQuiet
import Derived.Deep.QuietTactic
set_option maxHeartbeats 1000000
set_option maxRecDepth 100000
namespace Go.Proofs
open Go.Shelf
open Go.RowKit Go.Lib in
open Go.RowKit Go.Lib in
open Go.RowKit Go.Lib in
open Go.RowKit Go.Lib in
def Tryz.lays219_ren:Go.Shelf.Ren:=⟨fun | 219=>232 | 217=>239 | 225=>240 | 224=>241 | 267=>242 | 266=>244 | 314=>245|n=>n,fun | 9=>9 | 3=>3 | 4=>4 | 5=>5 | 46=>141 | 146=>366 | 51=>55|n=>n,fun | 1=>0|n=>n⟩
theorem Tryz.lays219:Go.Proofs.Lays.n219 Tryz.prog Tryz.lays219_ren:={
 mixed:=by kernel_rfl
 f217:=Tryz.func239.trans (congrArg some (by kernel_rfl))
 f219:=Tryz.func232.trans (congrArg some (by kernel_rfl))
 f224:=Tryz.func241.trans (congrArg some (by kernel_rfl))
 f225:=Tryz.func240.trans (congrArg some (by kernel_rfl))
 f266:=Tryz.func244.trans (congrArg some (by kernel_rfl))
 f267:=Tryz.func242.trans (congrArg some (by kernel_rfl))
 f314:=Tryz.func245.trans (congrArg some (by kernel_rfl))
 t3:=Tryz.underlying3
 a3:=Tryz.isAgg3
 z3:=Tryz.sizeOf3
 v3:=Tryz.zeroValue3
 t4:=Tryz.underlying4
 a4:=Tryz.isAgg4
 z4:=Tryz.sizeOf4
 v4:=Tryz.zeroValue4
 t5:=Tryz.underlying5
 a5:=Tryz.isAgg5
 z5:=Tryz.sizeOf5
 v5:=Tryz.zeroValue5
 t9:=Tryz.underlying9
 a9:=Tryz.isAgg9
 z9:=Tryz.sizeOf9
 v9:=Tryz.zeroValue9
 t46:=Tryz.underlying141
 a46:=Tryz.isAgg141
 z46:=Tryz.sizeOf141
 v46:=Tryz.zeroValue141
 t51:=Tryz.underlying55
 a51:=Tryz.isAgg55
 z51:=Tryz.sizeOf55
 v51:=Tryz.zeroValue55
 t146:=Tryz.underlying366
 a146:=Tryz.isAgg366
 z146:=Tryz.sizeOf366
 v146:=Tryz.zeroValue366
 g1:=by kernel_rfl }
open Go.RowKit Go.Lib in
theorem Tryz.stringslite_Index_one (s:ByteArray) (c:UInt8) (w:World) :
 Calls Tryz.prog 232 #[.string s,.string ⟨#[c]⟩] w fun e w'=>e = .returned (.int .i64 (Lib.indexByte s.data.toList c))/\w'=w:=Any.stringslite_Index_one Tryz.lays219 s c w
open Go.RowKit Go.Lib in
open Go.RowKit Go.Lib in
open Go.RowKit Go.Lib in
open Go.RowKit Go.Lib in
open Go.RowKit Go.Lib in
open Go.RowKit Go.Lib in
open Go.RowKit Go.Lib in
def Tryz.lays149_ren:Go.Shelf.Ren:=⟨fun | 149=>136 | 222=>195|n=>n,fun | 9=>9 | 5=>5 | 3=>3 | 4=>4|n=>n,fun|n=>n⟩
theorem Tryz.lays149:Go.Proofs.Lays.n149 Tryz.prog Tryz.lays149_ren:={
 mixed:=by kernel_rfl
 f149:=Tryz.func136.trans (congrArg some (by kernel_rfl))
 f222:=Tryz.func195.trans (congrArg some (by kernel_rfl))
 t3:=Tryz.underlying3
 a3:=Tryz.isAgg3
 z3:=Tryz.sizeOf3
 v3:=Tryz.zeroValue3
 t4:=Tryz.underlying4
 a4:=Tryz.isAgg4
 z4:=Tryz.sizeOf4
 v4:=Tryz.zeroValue4
 t5:=Tryz.underlying5
 a5:=Tryz.isAgg5
 z5:=Tryz.sizeOf5
 v5:=Tryz.zeroValue5
 t9:=Tryz.underlying9
 a9:=Tryz.isAgg9
 z9:=Tryz.sizeOf9
 v9:=Tryz.zeroValue9 }
open Go.RowKit Go.Lib in
theorem Tryz.strings_LastIndexByte (s:ByteArray) (c:Int) (hs:s.size<4611686018427387904) (w:World) :
 Calls Tryz.prog 136 #[.string s,.int .u8 c] w fun e w'=>e = .returned (.int .i64 (Lib.lastIndexByte s c))/\w'=w:=Any.strings_LastIndexByte Tryz.lays149 s c hs w
def Tryz.laysSlM6_f153_ren:Go.Shelf.Ren:=⟨fun | 6=>153 | 8=>205 | 9=>204 | 19=>229 | 20=>230 | 21=>220 | 22=>221 | 23=>222 | 24=>223 | 25=>224 | 26=>225 | 27=>226 | 28=>227 | 29=>228 | 36=>233 | 31=>234 | 32=>235 | 37=>236 | 38=>237 | 39=>238 | 41=>243|n=>n,fun | 27=>165 | 29=>9 | 3=>3 | 32=>141 | 26=>165 | 0=>0 | 44=>55 | 46=>190 | 4=>4 | 36=>345 | 35=>344 | 41=>350 | 5=>5 | 9=>9 | 53=>357 | 57=>361 | 63=>363 | 64=>364|n=>n,fun|n=>n⟩
theorem Tryz.laysSlM6_f153:Go.Proofs.SlLaysM.n6 Tryz.prog Tryz.laysSlM6_f153_ren:={
 mixed:=by kernel_rfl
 f6:=⟨Tryz.f153.name,by decide,Tryz.func153.trans (congrArg some (by kernel_rfl))⟩
 f8:=Tryz.func205.trans (congrArg some (by kernel_rfl))
 f9:=⟨Tryz.f204.name,by decide,Tryz.func204.trans (congrArg some (by kernel_rfl))⟩
 f19:=Tryz.func229.trans (congrArg some (by kernel_rfl))
 f20:=Tryz.func230.trans (congrArg some (by kernel_rfl))
 f21:=⟨Tryz.f220.name,by decide,Tryz.func220.trans (congrArg some (by kernel_rfl))⟩
 f22:=⟨Tryz.f221.name,by decide,Tryz.func221.trans (congrArg some (by kernel_rfl))⟩
 f23:=⟨Tryz.f222.name,by decide,Tryz.func222.trans (congrArg some (by kernel_rfl))⟩
 f24:=⟨Tryz.f223.name,by decide,Tryz.func223.trans (congrArg some (by kernel_rfl))⟩
 f25:=⟨Tryz.f224.name,by decide,Tryz.func224.trans (congrArg some (by kernel_rfl))⟩
 f26:=⟨Tryz.f225.name,by decide,Tryz.func225.trans (congrArg some (by kernel_rfl))⟩
 f27:=⟨Tryz.f226.name,by decide,Tryz.func226.trans (congrArg some (by kernel_rfl))⟩
 f28:=⟨Tryz.f227.name,by decide,Tryz.func227.trans (congrArg some (by kernel_rfl))⟩
 f29:=⟨Tryz.f228.name,by decide,Tryz.func228.trans (congrArg some (by kernel_rfl))⟩
 f31:=Tryz.func234.trans (congrArg some (by kernel_rfl))
 f32:=Tryz.func235.trans (congrArg some (by kernel_rfl))
 f36:=⟨Tryz.f233.name,by decide,Tryz.func233.trans (congrArg some (by kernel_rfl))⟩
 f37:=⟨Tryz.f236.name,by decide,Tryz.func236.trans (congrArg some (by kernel_rfl))⟩
 f38:=⟨Tryz.f237.name,by decide,Tryz.func237.trans (congrArg some (by kernel_rfl))⟩
 f39:=⟨Tryz.f238.name,by decide,Tryz.func238.trans (congrArg some (by kernel_rfl))⟩
 f41:=⟨Tryz.f243.name,by decide,Tryz.func243.trans (congrArg some (by kernel_rfl))⟩
 t0:=Tryz.underlying0
 a0:=Tryz.isAgg0
 z0:=Tryz.sizeOf0
 v0:=Tryz.zeroValue0
 t3:=Tryz.underlying3
 a3:=Tryz.isAgg3
 z3:=Tryz.sizeOf3
 v3:=Tryz.zeroValue3
 t4:=Tryz.underlying4
 a4:=Tryz.isAgg4
 z4:=Tryz.sizeOf4
 v4:=Tryz.zeroValue4
 t5:=Tryz.underlying5
 a5:=Tryz.isAgg5
 z5:=Tryz.sizeOf5
 v5:=Tryz.zeroValue5
 t9:=Tryz.underlying9
 a9:=Tryz.isAgg9
 z9:=Tryz.sizeOf9
 v9:=Tryz.zeroValue9
 t26:=Tryz.underlying165
 a26:=Tryz.isAgg165
 z26:=Tryz.sizeOf165
 v26:=Tryz.zeroValue165
 t27:=Tryz.underlying165
 a27:=Tryz.isAgg165
 z27:=Tryz.sizeOf165
 v27:=Tryz.zeroValue165
 t29:=Tryz.underlying9
 a29:=Tryz.isAgg9
 z29:=Tryz.sizeOf9
 v29:=Tryz.zeroValue9
 t32:=Tryz.underlying141
 a32:=Tryz.isAgg141
 z32:=Tryz.sizeOf141
 v32:=Tryz.zeroValue141
 t35:=Tryz.underlying344
 a35:=Tryz.isAgg344
 z35:=Tryz.sizeOf344
 v35:=Tryz.zeroValue344
 t36:=Tryz.underlying345
 a36:=Tryz.isAgg345
 z36:=Tryz.sizeOf345
 v36:=Tryz.zeroValue345
 t41:=Tryz.underlying350
 a41:=Tryz.isAgg350
 z41:=Tryz.sizeOf350
 v41:=Tryz.zeroValue350
 t44:=Tryz.underlying55
 a44:=Tryz.isAgg55
 z44:=Tryz.sizeOf55
 v44:=Tryz.zeroValue55
 t46:=Tryz.underlying190
 a46:=Tryz.isAgg190
 z46:=Tryz.sizeOf190
 v46:=Tryz.zeroValue190
 t53:=Tryz.underlying357
 a53:=Tryz.isAgg357
 z53:=Tryz.sizeOf357
 v53:=Tryz.zeroValue357
 t57:=Tryz.underlying361
 a57:=Tryz.isAgg361
 z57:=Tryz.sizeOf361
 v57:=Tryz.zeroValue361
 t63:=Tryz.underlying363
 a63:=Tryz.isAgg363
 z63:=Tryz.sizeOf363
 v63:=Tryz.zeroValue363
 t64:=Tryz.underlying364
 a64:=Tryz.isAgg364
 z64:=Tryz.sizeOf364
 v64:=Tryz.zeroValue364 }
open Go.Sort Go.RowKit in
theorem Tryz.slices_Sort_string (blk off cap:Nat) (ss:List (List UInt8)) (w:World) (hH:Holds encStr w blk off ss.toArray) (hblk:blk<w.heap.size) (hsz:ss.length<4611686018427387904) :
 Calls Tryz.prog 153 #[.slice (some ⟨blk,off,none⟩) ss.length cap] w fun e w' =>
  e = .returned (.tuple #[]) /\ ∃ n os,w'=grow (putRow encStr (Sort.ahead w n) blk off (ss.mergeSort fun x y=>decide (x<=y)).toArray) os:=AnyM.slices_Sort_string Tryz.laysSlM6_f153 blk off cap ss w hH hblk hsz
open Go.RowKit Go.Sort in
theorem Tryz.slices_Sort_string_none (p:Option Addr) (cap:Nat) (w:World) :
 Calls Tryz.prog 153 #[.slice p 0 cap] w fun e w'=>e = .returned (.tuple #[])/\w'=w:=AnyM.slices_Sort_string_none Tryz.laysSlM6_f153 p cap w
open Go.RowKit Go.Lib in
def Tryz.keysL_ren:Go.Shelf.Ren:=⟨fun | 7=>91 | 10=>154|n=>n,fun | 23=>162 | 26=>9 | 3=>62 | 28=>137 | 0=>0 | 27=>136 | 33=>202 | 4=>4|n=>n,fun|n=>n⟩
theorem Tryz.keysL:Go.Proofs.SlLaysZ.n7 Tryz.prog Tryz.keysL_ren:={
 mixed:=by kernel_rfl
 f7:=⟨Tryz.f91.name,by decide,Tryz.func91.trans (congrArg some (by kernel_rfl))⟩
 f10:=⟨Tryz.f154.name,by decide,Tryz.func154.trans (congrArg some (by kernel_rfl))⟩
 t0:=Tryz.underlying0
 a0:=Tryz.isAgg0
 z0:=Tryz.sizeOf0
 v0:=Tryz.zeroValue0
 t4:=Tryz.underlying4
 a4:=Tryz.isAgg4
 z4:=Tryz.sizeOf4
 v4:=Tryz.zeroValue4
 t23:=Tryz.underlying162
 a23:=Tryz.isAgg162
 z23:=Tryz.sizeOf162
 v23:=Tryz.zeroValue162
 t26:=Tryz.underlying9
 a26:=Tryz.isAgg9
 z26:=Tryz.sizeOf9
 v26:=Tryz.zeroValue9
 t27:=Tryz.underlying136
 a27:=Tryz.isAgg136
 z27:=Tryz.sizeOf136
 v27:=Tryz.zeroValue136
 t28:=Tryz.underlying137
 a28:=Tryz.isAgg137
 z28:=Tryz.sizeOf137
 v28:=Tryz.zeroValue137
 t33:=Tryz.underlying202
 a33:=Tryz.isAgg202
 z33:=Tryz.sizeOf202
 v33:=Tryz.zeroValue202 }
def Tryz.sortedL_ren:Go.Shelf.Ren:=⟨fun | 6=>90 | 8=>152 | 9=>153 | 11=>203 | 13=>205 | 12=>204 | 23=>229 | 24=>230 | 14=>220 | 15=>221 | 16=>222 | 17=>223 | 18=>224 | 19=>225 | 20=>226 | 21=>227 | 22=>228 | 25=>233 | 26=>234 | 27=>235 | 28=>236 | 29=>237 | 30=>238 | 31=>243|n=>n,fun | 26=>9 | 28=>137 | 24=>165 | 0=>0 | 3=>3 | 37=>141 | 48=>55 | 50=>190 | 4=>4 | 40=>345 | 39=>344 | 45=>350 | 5=>5 | 9=>9 | 51=>357 | 55=>361 | 57=>363 | 58=>364 | 33=>202|n=>n,fun|n=>n⟩
theorem Tryz.sortedL:Go.Proofs.SlLaysZ.n6 Tryz.prog Tryz.sortedL_ren:={
 mixed:=by kernel_rfl
 f6:=⟨Tryz.f90.name,by decide,Tryz.func90.trans (congrArg some (by kernel_rfl))⟩
 f8:=⟨Tryz.f152.name,by decide,Tryz.func152.trans (congrArg some (by kernel_rfl))⟩
 f11:=⟨Tryz.f203.name,by decide,Tryz.func203.trans (congrArg some (by kernel_rfl))⟩
 t0:=Tryz.underlying0
 a0:=Tryz.isAgg0
 z0:=Tryz.sizeOf0
 v0:=Tryz.zeroValue0
 t24:=Tryz.underlying165
 a24:=Tryz.isAgg165
 z24:=Tryz.sizeOf165
 v24:=Tryz.zeroValue165
 t26:=Tryz.underlying9
 a26:=Tryz.isAgg9
 z26:=Tryz.sizeOf9
 v26:=Tryz.zeroValue9
 t28:=Tryz.underlying137
 a28:=Tryz.isAgg137
 z28:=Tryz.sizeOf137
 v28:=Tryz.zeroValue137
 i26:=by kernel_rfl }
def Tryz.sortL_ren:Go.Shelf.Ren:=⟨fun | 6=>153 | 8=>205 | 9=>204 | 19=>229 | 20=>230 | 21=>220 | 22=>221 | 23=>222 | 24=>223 | 25=>224 | 26=>225 | 27=>226 | 28=>227 | 29=>228 | 36=>233 | 31=>234 | 32=>235 | 37=>236 | 38=>237 | 39=>238 | 41=>243|n=>n,fun | 27=>165 | 29=>9 | 3=>3 | 32=>141 | 26=>165 | 0=>0 | 44=>55 | 46=>190 | 4=>4 | 36=>345 | 35=>344 | 41=>350 | 5=>5 | 9=>9 | 53=>357 | 57=>361 | 63=>363 | 64=>364|n=>n,fun|n=>n⟩
theorem Tryz.sortL:Go.Proofs.SlLaysM.n6 Tryz.prog Tryz.sortL_ren:={
 mixed:=by kernel_rfl
 f6:=⟨Tryz.f153.name,by decide,Tryz.func153.trans (congrArg some (by kernel_rfl))⟩
 f8:=Tryz.func205.trans (congrArg some (by kernel_rfl))
 f9:=⟨Tryz.f204.name,by decide,Tryz.func204.trans (congrArg some (by kernel_rfl))⟩
 f19:=Tryz.func229.trans (congrArg some (by kernel_rfl))
 f20:=Tryz.func230.trans (congrArg some (by kernel_rfl))
 f21:=⟨Tryz.f220.name,by decide,Tryz.func220.trans (congrArg some (by kernel_rfl))⟩
 f22:=⟨Tryz.f221.name,by decide,Tryz.func221.trans (congrArg some (by kernel_rfl))⟩
 f23:=⟨Tryz.f222.name,by decide,Tryz.func222.trans (congrArg some (by kernel_rfl))⟩
 f24:=⟨Tryz.f223.name,by decide,Tryz.func223.trans (congrArg some (by kernel_rfl))⟩
 f25:=⟨Tryz.f224.name,by decide,Tryz.func224.trans (congrArg some (by kernel_rfl))⟩
 f26:=⟨Tryz.f225.name,by decide,Tryz.func225.trans (congrArg some (by kernel_rfl))⟩
 f27:=⟨Tryz.f226.name,by decide,Tryz.func226.trans (congrArg some (by kernel_rfl))⟩
 f28:=⟨Tryz.f227.name,by decide,Tryz.func227.trans (congrArg some (by kernel_rfl))⟩
 f29:=⟨Tryz.f228.name,by decide,Tryz.func228.trans (congrArg some (by kernel_rfl))⟩
 f31:=Tryz.func234.trans (congrArg some (by kernel_rfl))
 f32:=Tryz.func235.trans (congrArg some (by kernel_rfl))
 f36:=⟨Tryz.f233.name,by decide,Tryz.func233.trans (congrArg some (by kernel_rfl))⟩
 f37:=⟨Tryz.f236.name,by decide,Tryz.func236.trans (congrArg some (by kernel_rfl))⟩
 f38:=⟨Tryz.f237.name,by decide,Tryz.func237.trans (congrArg some (by kernel_rfl))⟩
 f39:=⟨Tryz.f238.name,by decide,Tryz.func238.trans (congrArg some (by kernel_rfl))⟩
 f41:=⟨Tryz.f243.name,by decide,Tryz.func243.trans (congrArg some (by kernel_rfl))⟩
 t0:=Tryz.underlying0
 a0:=Tryz.isAgg0
 z0:=Tryz.sizeOf0
 v0:=Tryz.zeroValue0
 t3:=Tryz.underlying3
 a3:=Tryz.isAgg3
 z3:=Tryz.sizeOf3
 v3:=Tryz.zeroValue3
 t4:=Tryz.underlying4
 a4:=Tryz.isAgg4
 z4:=Tryz.sizeOf4
 v4:=Tryz.zeroValue4
 t5:=Tryz.underlying5
 a5:=Tryz.isAgg5
 z5:=Tryz.sizeOf5
 v5:=Tryz.zeroValue5
 t9:=Tryz.underlying9
 a9:=Tryz.isAgg9
 z9:=Tryz.sizeOf9
 v9:=Tryz.zeroValue9
 t26:=Tryz.underlying165
 a26:=Tryz.isAgg165
 z26:=Tryz.sizeOf165
 v26:=Tryz.zeroValue165
 t27:=Tryz.underlying165
 a27:=Tryz.isAgg165
 z27:=Tryz.sizeOf165
 v27:=Tryz.zeroValue165
 t29:=Tryz.underlying9
 a29:=Tryz.isAgg9
 z29:=Tryz.sizeOf9
 v29:=Tryz.zeroValue9
 t32:=Tryz.underlying141
 a32:=Tryz.isAgg141
 z32:=Tryz.sizeOf141
 v32:=Tryz.zeroValue141
 t35:=Tryz.underlying344
 a35:=Tryz.isAgg344
 z35:=Tryz.sizeOf344
 v35:=Tryz.zeroValue344
 t36:=Tryz.underlying345
 a36:=Tryz.isAgg345
 z36:=Tryz.sizeOf345
 v36:=Tryz.zeroValue345
 t41:=Tryz.underlying350
 a41:=Tryz.isAgg350
 z41:=Tryz.sizeOf350
 v41:=Tryz.zeroValue350
 t44:=Tryz.underlying55
 a44:=Tryz.isAgg55
 z44:=Tryz.sizeOf55
 v44:=Tryz.zeroValue55
 t46:=Tryz.underlying190
 a46:=Tryz.isAgg190
 z46:=Tryz.sizeOf190
 v46:=Tryz.zeroValue190
 t53:=Tryz.underlying357
 a53:=Tryz.isAgg357
 z53:=Tryz.sizeOf357
 v53:=Tryz.zeroValue357
 t57:=Tryz.underlying361
 a57:=Tryz.isAgg361
 z57:=Tryz.sizeOf361
 v57:=Tryz.zeroValue361
 t63:=Tryz.underlying363
 a63:=Tryz.isAgg363
 z63:=Tryz.sizeOf363
 v63:=Tryz.zeroValue363
 t64:=Tryz.underlying364
 a64:=Tryz.isAgg364
 z64:=Tryz.sizeOf364
 v64:=Tryz.zeroValue364 }
end Go.Proofs
namespace Go.Proofs.YtohpeoakdgckfaaGreat
open Go.RowKit
def cut1 (c:UInt8) (s:ByteArray):ByteArray × ByteArray × Bool :=
 if Lib.indexByte s.data.toList c<0 then (s,ByteArray.empty,false)
 else (s.extract 0 (Lib.indexByte s.data.toList c).toNat,s.extract ((Lib.indexByte s.data.toList c).toNat+1) s.size,true)
theorem zft (l:List UInt8) (c:UInt8):Lib.indexByte l c<l.length:=by
 induction l with
 | nil=>simp [Lib.indexByte]
 | cons x l ih =>
  unfold Lib.indexByte
  split
  · simp<;>omega
  · split
    · simp<;>omega
    · simp<;>omega
theorem zn3 (s:ByteArray) (c:UInt8) (w:World) (hs:s.size<=4611686018427387904) :
 Calls Tryz.prog 218 #[.string s,.string ⟨#[c]⟩] w fun e w' =>
  e = .returned (.tuple #[.string (cut1 c s).1,.string (cut1 c s).2.1,.bool (cut1 c s).2.2]) /\ ∃ n,w'=w.drewN n:=by
 have hb:=zft s.data.toList c
 have hg:=Lib.indexByte_ge s.data.toList c
 have hlen:s.data.toList.length=s.size:=by simp
 rw [hlen] at hb
 obtain ⟨i,hi⟩ : ∃ i,Lib.indexByte s.data.toList c=i:=⟨_,rfl⟩
 have HI:=hid hi
 rw [hi] at hb hg
 by_cases h0:i<0
 · have HC:Hid (cut1 c s=(s,ByteArray.empty,false)):=hid (by simp [cut1,hi,h0])
   clear hi hlen
   go_enter Tryz.func218,Tryz.ntmps218
   go_wp2_with (go_at_call 232;refine (Tryz.stringslite_Index_one _ _ _).mono ?_;rw [HI.out];rintro e w' ⟨rfl,rfl⟩)
   go_ret3
   rw [HC.out]
   exact ⟨rfl,0,rfl⟩
 · obtain ⟨n,rfl⟩:=Int.eq_ofNat_of_zero_le (show 0<=i by omega)
   have HC:Hid (cut1 c s=(s.extract 0 n,s.extract (n+1) s.size,true)):=hid (by simp [cut1,hi])
   clear hi hlen
   go_enter Tryz.func218,Tryz.ntmps218
   go_wp2_with (go_at_call 232;refine (Tryz.stringslite_Index_one _ _ _).mono ?_;rw [HI.out];rintro e w' ⟨rfl,rfl⟩)
   go_quiet (fail)
   go_wp2
   go_ret3
   rw [HC.out]
   exact ⟨rfl,_,rfl⟩
theorem zkr (s:ByteArray) (c:UInt8) (w:World) (hs:s.size<=4611686018427387904) :
 Calls Tryz.prog 194 #[.string s,.string ⟨#[c]⟩] w fun e w' =>
  e = .returned (.tuple #[.string (cut1 c s).1,.string (cut1 c s).2.1,.bool (cut1 c s).2.2]) /\ ∃ n,w'=w.drewN n:=by
 go_enter Tryz.func194,Tryz.ntmps194
 go_wp2_with (go_at_call 218;refine (zn3 _ _ _ hs).mono ?_;rintro e w' ⟨rfl,n,rfl⟩)
 go_ret3
 exact ⟨rfl,_,rfl⟩
end Go.Proofs.YtohpeoakdgckfaaGreat
namespace Go.Proofs.YtohpeoakdgckfaaGreat
open Go.RowKit Go.Shelf
attribute [local go_sem] Oper.semAt_some
def splitL:List UInt8->List (List UInt8)
 | []=>[[]]
 | b::l=>if b=47 then []::splitL l else match splitL l with
  | p::ps=>(b::p)::ps
  | []=>[[b]]
theorem z2c (l:List UInt8):splitL l≠[]:=by
 cases l with
 | nil=>simp [splitL]
 | cons b l =>
  unfold splitL
  split
  · simp
  · split<;>simp
theorem zhr {l:List UInt8} (h:Lib.indexByte l 47<0):splitL l=[l]:=by
 induction l with
 | nil=>rfl
 | cons b l ih =>
  unfold Lib.indexByte at h
  split at h
  · simp at h
  · rename_i hb
    have hl:Lib.indexByte l 47<0:=by
     split at h
     · rename_i h2;simp at h2;omega
     · have:=Lib.indexByte_ge l 47;rename_i h2;simp at h2;omega
    unfold splitL
    rw [if_neg (by simpa using hb),ih hl]
theorem zhs {l:List UInt8} {n:Nat} (h:Lib.indexByte l 47=n):splitL l=l.take n::splitL (l.drop (n+1)):=by
 induction l generalizing n with
 | nil=>simp [Lib.indexByte] at h
 | cons b l ih =>
  unfold Lib.indexByte at h
  split at h
  · rename_i hb
    obtain rfl:n=0:=by omega
    show splitL (b::l)=[]::splitL l
    rw [splitL,if_pos (by simpa using hb)]
  · rename_i hb
    split at h
    · omega
    · obtain ⟨m,rfl⟩ : ∃ m,n=m+1:=⟨n - 1,by have:=Lib.indexByte_ge l 47;rename_i h2;simp at h2;omega⟩
      have:=ih (n:=m) (by omega)
      rw [splitL,if_neg (by simpa using hb),this]
      simp
theorem zfu {s:ByteArray} (h:(cut1 47 s).2.2=true):splitL s.data.toList=(cut1 47 s).1.data.toList::splitL (cut1 47 s).2.1.data.toList:=by
 unfold cut1 at h ⊢
 split
 · rename_i h0;simp [h0] at h
 · rename_i h0
   obtain ⟨n,hn⟩:=Int.eq_ofNat_of_zero_le (show 0<=Lib.indexByte s.data.toList 47 by omega)
   rw [zhs hn,hn]
   simp only [Int.toNat_natCast,ByteArray.data_extract,Array.toList_extract,List.extract_eq_take_drop,List.drop_zero,Nat.sub_zero]
   rw [List.take_of_length_le (l:=List.drop (n+1) s.data.toList) (by simp)]
theorem zfv {s:ByteArray} (h:(cut1 47 s).2.2=false):splitL s.data.toList=[(cut1 47 s).1.data.toList]:=by
 unfold cut1 at h ⊢
 split
 · rename_i h0;rw [zhr h0]
 · rename_i h0;simp [h0] at h
theorem zs7 {s:ByteArray}:(cut1 47 s).2.1.size<=s.size:=by
 unfold cut1
 split
 · simp
 · simp [ByteArray.size_extract]
theorem z87 (s:ByteArray) (hs:s.size<=4611686018427387904) (Bx:Nat) (w:World) (hB:w.heap[Bx]?=some (.cells #[.string s] 9 (0,0))) :
 Iter Tryz.prog 193 #[.pointer (some ⟨Bx,0,none⟩)] (fun x:List UInt8 => #[Value.string (bs x)]) (splitL s.data.toList) (· = Bx) (· = Bx) w:=by
 intro l J Jx W hW hJ hJx hY h0
 have hBx:W.heap[Bx]?=some (.cells #[.string s] 9 (0,0)):=hW.blk hB rfl (fun c=>c)
 refine callsIn_of_wp Tryz.func193 rfl trivial ?_ rfl
 simp only [Tryz.ntmps193,List.size_toArray,List.length_cons,List.length_nil,Nat.reduceAdd,Nat.reduceSub,Array.replicate_succ,Array.replicate_zero,List.push_toArray,List.append_toArray,List.nil_append,List.cons_append]
 gi_wp2
 gi_loopg [3] ((splitL s.data.toList).length+1) (fun g m wr=>(∃ k r,k<(splitL s.data.toList).length/\m = .bool true/\r.size<=s.size/\g=(splitL s.data.toList).length - k+1/\Hid (splitL r.data.toList=(splitL s.data.toList).drop k)/\wr.heap[Bx]?=some (.cells #[.string r] 9 (0,0))/\J k wr) \/
  (m = .bool false/\J (splitL s.data.toList).length wr))
 case atStart =>
  exact .inl ⟨0,s,by have:=z2c s.data.toList;cases h:splitL s.data.toList<;>simp_all,rfl,Nat.le_refl _,rfl,rfl,hBx,h0⟩
 case round =>
  rcases hrel with ⟨k,r,hk,rfl,hr,hg,HS,hb,hj⟩ | ⟨rfl,hj⟩
  · have hc:=z2a hb
    have hf:=z5t hb
    have HG:=hid hg
    have HB:=hid hb
    have HJ:=hid hj
    have HY:=hid hY
    have HJJ:=hid hJ
    clear hb hj hY hJ hJx hg
    cases hm:(cut1 47 r).2.2
    all_goals
     gi_wp2_with fail
     refine ⟨trivial,rfl,(in9 (zkr r 47 _ (by omega))).mono ?_⟩
     rintro e w1 ⟨rfl,n,rfl⟩
     gi_wp2_with fail
     have hx0:ExtC (· = Bx) W.heap.size wr ((wr.drewN n).setCell ⟨Bx,0,none⟩ (.string (cut1 47 r).2.1)):=(((Ext.refl (· = Bx) wr).drewN n).setCell (p:=⟨Bx,0,none⟩) (.inl rfl) _).c _
     have hxk:(splitL s.data.toList)[k]=(cut1 47 r).1.data.toList:=by
      have h1:(splitL r.data.toList)[0]?=(splitL s.data.toList)[k]?:=by rw [HS.out];simp
      rw [List.getElem?_eq_getElem hk] at h1
      first
      | (rw [zfu hm] at h1;simpa using h1.symm)
      | (rw [zfv hm] at h1;simpa using h1.symm)
     obtain ⟨fn,tmps,assign,body,hy,hR⟩:=HY.out k hk _ (HJJ.out _ _ _ HJ.out hx0)
     rw [hxk,zsy] at hy
     rw [hy,Oper.uponIn_round]
     have HM:=hid hm
     clear hm hy hxk
     refine ⟨by simp [Fence.wide],hR.mono ?_⟩
     have hb1:((wr.drewN n).setCell ⟨Bx,0,none⟩ (.string (cut1 47 r).2.1)).heap[Bx]?=some (.cells #[.string (cut1 47 r).2.1] 9 (0,0)):=z81 (W:=wr.drewN n) HB.out _
     rintro e W' (⟨rfl,hj',hx'⟩ | ⟨rfl,hj'⟩)
     · have hb':=hx'.blk hb1 (fun c=>c rfl)
       have HJ':=hid hj'
       have HB':=hid hb'
       clear hj' hx' hb' hb1 hx0
       gi_wp2
       gi_roundg ((splitL s.data.toList).length - k)
       case measure=>have:=HG.out;omega
       case rel =>
        first
        | (refine .inr ⟨rfl,?_⟩
           have h1:(splitL s.data.toList).drop k=[(cut1 47 r).1.data.toList]:=by rw [← HS.out,zfv HM.out]
           have h2:=congrArg List.length h1
           simp at h2
           rw [show (splitL s.data.toList).length=k+1 by omega]
           exact HJ'.out)
        | (have h1:(splitL s.data.toList).drop k=(cut1 47 r).1.data.toList::splitL (cut1 47 r).2.1.data.toList:=by rw [← HS.out,zfu HM.out]
           have h2:=congrArg List.length h1
           have h3:=z2c (cut1 47 r).2.1.data.toList
           have h4:0<(splitL (cut1 47 r).2.1.data.toList).length:=List.length_pos_iff.2 h3
           simp at h2
           refine .inl ⟨k+1,_,by omega,rfl,Nat.le_trans zs7 hr,by omega,?_,HB'.out,HJ'.out⟩
           have h5:=congrArg List.tail h1
           exact hid (by simpa using h5.symm))
     · have HJ':=hid hj'
       clear hj' hb1 hx0
       gi_wp2
       refine bodyPost_ret (results_none rfl _ _ _) rfl ⟨⟨_,rfl⟩,.inr ⟨k,hk,HJ'.out⟩⟩
  · have HJ:=hid hj
    clear hj hY hJ hJx
    gi_wp2
    go_end0
    exact ⟨⟨_,rfl⟩,.inl HJ.out⟩
end Go.Proofs.YtohpeoakdgckfaaGreat
