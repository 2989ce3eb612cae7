/- strconv.FormatInt of a byte and 256, base 16. -/
import Derived.Test.YteknekiclhnkiaaGreatDoorUa
import Derived.Test.YteknekiclhnkiaaGreatDoorVb
import Derived.Test.YteknekiclhnkiaaGreatDoorPu
import Derived.Test.YteknekiclhnkiaaGreatDoorGo
set_option maxHeartbeats 4000000
set_option maxRecDepth 10000
namespace Go.Proofs.YteknekiclhnkiaaGreatDoor
open Go.RowKit Sx
inductive QuV where
 | mk (kind:Int) (gv:Value) (grams:List Tx) (sv:Value) (subs:List QuV)
namespace QuV
def kind:QuV->Int | .mk k _ _ _ _=>k
def gv:QuV->Value | .mk _ v _ _ _=>v
def grams:QuV->List Tx | .mk _ _ g _ _=>g
def sv:QuV->Value | .mk _ _ _ v _=>v
def subs:QuV->List QuV | .mk _ _ _ _ s=>s
mutual
def key:QuV->Qu
 | .mk k _ gs _ ss=> .mk k gs (keys ss)
def keys:List QuV->List Qu
 | []=>[]
 | q::l=>key q::keys l
end
end QuV
instance:Inhabited QuV:=⟨.mk 0 (.slice none 0 0) [] (.slice none 0 0) []⟩
theorem keys_map : ∀ l:List QuV,QuV.keys l=l.map QuV.key
 | []=>by simp [QuV.keys]
 | q::l=>by simp [QuV.keys,keys_map l]
theorem key_mk (k:Int) (gv:Value) (gs:List Tx) (sv:Value) (ss:List QuV):(QuV.mk k gv gs sv ss).key = .mk k gs (ss.map QuV.key):=by simp [QuV.key,keys_map]
theorem key_kind (q:QuV):q.key.kind=q.kind:=by cases q;rw [key_mk];rfl
theorem key_grams (q:QuV):q.key.grams=q.grams:=by cases q;rw [key_mk];rfl
theorem key_subs (q:QuV):q.key.subs=q.subs.map QuV.key:=by cases q;rw [key_mk];rfl
def encTx (s:Tx):List Value:=[.string (bs s)]
def encQ (q:QuV):List Value:=[.int .i64 q.kind,q.gv,q.sv]
def KindR (k:Int):Prop := -9223372036854775808<=k/\k<=9223372036854775807
mutual
def QuR (r:Hp):QuV->Prop
 | .mk k gv gs sv ss=>(Els r 1 encTx gv gs/\Els r 3 encQ sv ss/\QuL r ss)/\KindR k
def QuL (r:Hp):List QuV->Prop
 | []=>True
 | q::l=>QuR r q/\QuL r l
end
theorem quL_iff {r:Hp} : ∀ {l:List QuV},QuL r l ↔ ∀ q∈l,QuR r q
 | []=>by simp [QuL]
 | q::l=>by simp [QuL,quL_iff (l:=l)]
theorem quR_iff {r:Hp} {q:QuV}:(QuR r q->Els r 1 encTx q.gv q.grams/\Els r 3 encQ q.sv q.subs /\ ∀ s∈q.subs,QuR r s)/\(KindR q.kind->(Els r 1 encTx q.gv q.grams/\Els r 3 encQ q.sv q.subs /\ ∀ s∈q.subs,QuR r s)->QuR r q):=by
 cases q
 simp only [QuR,quL_iff]
 exact ⟨fun h=>h.1,fun h1 h2=>⟨h2,h1⟩⟩
theorem quR_kind {r:Hp} {q:QuV} (h:QuR r q):KindR q.kind:=by
 cases q
 simp only [QuR] at h
 exact h.2
theorem QuR.mono {r r':Hp} (hr:sub r r') : ∀ {q:QuV},QuR r q->QuR r' q
 | .mk k gv gs sv ss,h=>by
  obtain ⟨h1,h2,h3⟩:=quR_iff.1 h
  exact quR_iff.2 (quR_kind h) ⟨h1.mono hr,h2.mono hr,fun s _h=>QuR.mono hr (h3 s _h)⟩
termination_by q=>SizeOf.sizeOf q
decreasing_by
 have:=List.sizeOf_lt_of_mem _h
 simp only [QuV.mk.sizeOf_spec,QuV.subs] at *
 omega
-- How much a query holds. -/
def sizeT:List Tx->Nat
 | []=>0
 | s::l=>s.length+1+sizeT l
mutual
def sizeQ:Qu->Nat
 | .mk _ gs ss=>1+sizeT gs+sizeQs ss
def sizeQs:List Qu->Nat
 | []=>0
 | q::l=>sizeQ q+sizeQs l
end
theorem sizeT_mem {s:Tx} : ∀ {l:List Tx},s∈l->s.length+1<=sizeT l
 | x::l,h=>by
  rcases List.mem_cons.1 h with rfl|h
  · simp only [sizeT];omega
  · have:=sizeT_mem h;simp only [sizeT];omega
theorem sizeT_len : ∀ l:List Tx,l.length<=sizeT l
 | []=>Nat.le_refl _
 | x::l=>by have:=sizeT_len l;simp only [sizeT,List.length_cons];omega
theorem sizeT_app : ∀ l m:List Tx,sizeT (l++m)=sizeT l+sizeT m
 | [],m=>by simp [sizeT]
 | x::l,m=>by simp only [List.cons_append,sizeT,sizeT_app l m];omega
theorem sizeQ_pos (q:Qu):1<=sizeQ q:=by cases q;simp only [sizeQ];omega
theorem sizeQs_mem {q:Qu} : ∀ {l:List Qu},q∈l->sizeQ q<=sizeQs l
 | x::l,h=>by
  rcases List.mem_cons.1 h with rfl|h
  · simp only [sizeQs];omega
  · have:=sizeQs_mem h;simp only [sizeQs];omega
theorem sizeQs_len : ∀ l:List Qu,l.length<=sizeQs l
 | []=>Nat.le_refl _
 | x::l=>by have:=sizeQs_len l;have:=sizeQ_pos x;simp only [sizeQs,List.length_cons];omega
theorem sizeQs_app : ∀ l m:List Qu,sizeQs (l++m)=sizeQs l+sizeQs m
 | [],m=>by simp [sizeQs]
 | x::l,m=>by simp only [List.cons_append,sizeQs,sizeQs_app l m];omega
theorem size_parts (q:Qu):sizeQ q=1+sizeT q.grams+sizeQs q.subs:=by cases q;simp [sizeQ,Qu.grams,Qu.subs]
theorem gramsT_len : ∀ l:List Tx,((l.map gramT).flatMap fun t=>0::t).length<=2*sizeT l
 | []=>by simp [sizeT]
 | s::l=>by
  have:=gramsT_len l
  rw [List.map_cons,List.flatMap_cons,List.length_append,List.length_cons,gramT_len]
  simp only [sizeT];omega
theorem joinB_len (s:UInt8) (l:List Tx):(joinB s l).length<=(l.flatMap fun t=>0::t).length:=by
 cases l with
 | nil=>simp [joinB]
 | cons a l =>
  have h : ∀ l:List Tx,(l.flatMap (s :: ·)).length=(l.flatMap fun t=>0::t).length:=fun l=>by
   induction l with
   | nil=>rfl
   | cons x l ih=>rw [List.flatMap_cons,List.flatMap_cons,List.length_append,List.length_append,ih];rfl
  simp only [joinB,List.length_append,List.flatMap_cons,h,List.length_cons];omega
theorem textQ_len : ∀ q:Qu,(textQ q).length+1<=4*sizeQ q
 | .mk k gs ss=>by
  have hs : ∀ l:List Qu,(∀ s∈l,(textQ s).length+1<=4*sizeQ s)->((textL l).flatMap fun t=>0::t).length<=4*sizeQs l:=fun l h=>by
   induction l with
   | nil=>simp [textL]
   | cons x l ih =>
    have h1:=h x (by simp)
    have h2:=ih fun s hs=>h s (by simp [hs])
    simp only [textL,List.flatMap_cons,List.length_append,List.length_cons,sizeQs];omega
  have h1:=hs ss fun s _h=>textQ_len s
  have h2:=gramsT_len gs
  have h3:=fun c=>joinB_len c (gs.map gramT++textL ss)
  simp only [List.flatMap_append,List.length_append] at h3
  have h4:=h3 38
  have h5:=h3 124
  unfold textQ sizeQ
  split
  · simp only [List.length_singleton];omega
  · split
    · simp only [List.length_singleton];omega
    · split
      · simp only [List.length_cons,List.length_append,List.length_nil];omega
      · split
        · simp only [List.length_cons,List.length_append,List.length_nil];omega
        · simp only [List.length_singleton];omega
termination_by q=>SizeOf.sizeOf q
decreasing_by
 have:=List.sizeOf_lt_of_mem _h
 simp only [Qu.mk.sizeOf_spec]
 omega
-- A query that is owned,whole.
mutual
def OwnQ:QuV->Ch
 | .mk k gv gs sv ss=>fun h=>KindR k/\all [RowC 9 1 gv gs.length (gs.flatMap encTx),RowC 38 3 sv ss.length (ss.flatMap encQ),OwnL ss] h
def OwnL:List QuV->Ch
 | []=>all []
 | q::l=>all [OwnQ q,OwnL l]
end
theorem ownL_all : ∀ {l:List QuV} {h:Hp},OwnL l h↔all (l.map OwnQ) h
 | [],h=>by simp only [OwnL,List.map_nil]
 | q::l,h=>by
  simp only [OwnL,List.map_cons]
  constructor
  · rintro ⟨x,y,dd,rfl,hx,hy⟩
    exact ⟨x,y,dd,rfl,hx,ownL_all.1 (all_one.1 hy)⟩
  · rintro ⟨x,y,dd,rfl,hx,hy⟩
    exact ⟨x,y,dd,rfl,hx,all_one.2 (ownL_all.2 hy)⟩
theorem own_read : ∀ {q:QuV} {r h:Hp},OwnQ q h->sub h r->QuR r q
 | .mk k gv gs sv ss,r,h,e,hs=>by
  simp only [OwnQ] at e
  obtain ⟨hk,g1,g2,dd,rfl,h1,g3,g4,d2,rfl,h2,h3⟩:=e
  have h3:=ownL_all.1 (all_one.1 h3)
  have s1:sub g1 r:=fun b o e=>hs b o (un_left e)
  have s3:sub g3 r:=fun b o e=>hs b o (un_right dd (un_left e))
  have s4:sub g4 r:=fun b o e=>hs b o (un_right dd (un_right d2 e))
  have hl : ∀ (l:List QuV) (g:Hp),(∀ q∈l,∀ g',OwnQ q g'->sub g' r->QuR r q)->all (l.map OwnQ) g->sub g r -> ∀ q∈l,QuR r q:=fun l=>by
   induction l with
   | nil=>intro g _ _ _ q hq;cases hq
   | cons x l ih =>
    rintro g hx ⟨x1,y1,d3,rfl,e1,e2⟩ hg q hq
    rcases List.mem_cons.1 hq with rfl|hq
    · exact hx q (by simp) x1 e1 fun b o e=>hg b o (un_left e)
    · exact ih y1 (fun q h=>hx q (by simp [h])) e2 (fun b o e=>hg b o (un_right d3 e)) q hq
  exact quR_iff.2 hk ⟨⟨fun _=>rfl,h1.sl s1⟩,⟨fun _=>rfl,h2.sl s3⟩,hl ss g4 (fun q _h g' e1 e2=>own_read e1 e2) h3 s4⟩
termination_by q=>SizeOf.sizeOf q
decreasing_by
 have:=List.sizeOf_lt_of_mem _h
 simp only [QuV.mk.sizeOf_spec]
 omega
end Go.Proofs.YteknekiclhnkiaaGreatDoor
namespace Go.Proofs.YteknekiclhnkiaaGreatDoor
open Go.RowKit Sx
theorem getD_memU {α:Type} [Inhabited α] {l:List α} {k:Nat} (h:k<l.length):l.getD k default∈l:=by
 rw [List.getD_eq_getElem?_getD,List.getElem?_eq_getElem h]
 exact List.getElem_mem h
theorem lone_any (r:Hp) (q:QuV) (hq:QuR r q):Tri Tryz.prog r 108 [.agg (encQ q).toArray] [] fun w H=>w = .bool (loneQ q.key)/\H=[]:=by
 obtain ⟨k,gv,gs,sv,ss⟩:=q
 obtain ⟨h1,h2,h3⟩:=quR_iff.1 hq
 have h1:Els r 1 encTx gv gs:=h1
 have h2:Els r 3 encQ sv ss:=h2
 rw [key_mk]
 refine Tri.free2 fun R HR=>?_
 have hq:loneQ (.mk k gs (ss.map QuV.key))=(decide (k=3) && decide (gs.length=1) && decide (ss.length=0)):=by
  show (decide (k=3) && decide (gs.length=1) && decide ((ss.map QuV.key).length=0))=_
  congr 1
  rw [decide_eq_decide,List.length_map]
 rw [hq] at HR
 show Tri _ _ _ [.agg [.int .i64 k,gv,sv].toArray] _ _
 by_cases h3:k=3<;>by_cases h4:gs.length=1<;>by_cases h5:ss.length=0
 all_goals
  refine ae Tryz.func108 Tryz.ntmps108 ?_
  repeat' (first|exact xf|refine aw0 ?_|(refine ap2 ?_ ?_<;>try intro h)|refine aw1 ?_|(refine abx ?_;intro bb)|(refine abz ?_;intro bz)|(refine ahv ?_;intro v' hv')|(refine aac ?_;intro ac cc)|refine aw2 ?_|(refine ap4 ?_ ?_<;>try intro h)|apply True.intro)
  ((with_reducible apply fp_ret);exact res_1 rfl rfl)
  exact HR.out _ _ _ [] Takes.all ⟨by simp [h3,h4,h5],rfl⟩
namespace Sx
section
variable {P : Program} {r : Hp} {t : List Value} {d : Option Tmp} {ty : TypeId} {pos : String} {af : Array Edge} {gd : Option (Nat × Bool)}
theorem kd_ptr {T:TypeId} (h:kdB P T=some .ptr) : ∃ u,P.underlying T=some (.pointer u):=by
 unfold kdB at h
 split at h<;>first|(cases h;done)|exact ⟨_,by assumption⟩
theorem nil_run {T:TypeId} {x:Option Addr} {w:World} [h:TyKd P T .ptr]:(Op.equal T (.pointer x) (.pointer none)).run P w = .ok x.isNone w:=by
 obtain ⟨u,hu⟩:=kd_ptr h.kd
 show (Op.equalIn (9999+1) T (.pointer x) (.pointer none)).run P w=_
 unfold Op.equalIn
 cases x<;>simp [Sem.run_bind,Sem.run_pure,Result.andThen,run_underlying hu]
theorem pu_eqPn {T T':TypeId} {x y:Operand} [TyKd P T .ptr] (hx:evO t x=some (.pointer none)) (hy:evO t y=some (.pointer none)):Pur P r t ⟨d,.binOp .eql T x y T',ty,pos,af,gd⟩ (.bool true):=by
 refine ⟨rfl,fun w _=>?_⟩
 simp [execOp,ev_of hx,ev_of hy,eqGuard,binOp,Result.andThen,nil_run]
theorem pu_eqPs {T T':TypeId} {x y:Operand} {a:Addr} [TyKd P T .ptr] (hx:evO t x=some (.pointer (some a))) (hy:evO t y=some (.pointer none)):Pur P r t ⟨d,.binOp .eql T x y T',ty,pos,af,gd⟩ (.bool false):=by
 refine ⟨rfl,fun w _=>?_⟩
 simp [execOp,ev_of hx,ev_of hy,eqGuard,binOp,Result.andThen,nil_run]
theorem pu_nePn {T T':TypeId} {x y:Operand} [TyKd P T .ptr] (hx:evO t x=some (.pointer none)) (hy:evO t y=some (.pointer none)):Pur P r t ⟨d,.binOp .neq T x y T',ty,pos,af,gd⟩ (.bool false):=by
 refine ⟨rfl,fun w _=>?_⟩
 simp [execOp,ev_of hx,ev_of hy,eqGuard,binOp,Result.andThen,nil_run]
theorem pu_nePs {T T':TypeId} {x y:Operand} {a:Addr} [TyKd P T .ptr] (hx:evO t x=some (.pointer (some a))) (hy:evO t y=some (.pointer none)):Pur P r t ⟨d,.binOp .neq T x y T',ty,pos,af,gd⟩ (.bool true):=by
 refine ⟨rfl,fun w _=>?_⟩
 simp [execOp,ev_of hx,ev_of hy,eqGuard,binOp,Result.andThen,nil_run]
end
end Sx
end Go.Proofs.YteknekiclhnkiaaGreatDoor
namespace Go.Proofs.YteknekiclhnkiaaGreatDoor
open Go.RowKit
namespace Sx
section
variable {P : Program} {l : Option Nat} {r : Hp} {Q : Exit → St} {K : St} {t : List Value} {H : List Ch} {d : Option Tmp} {ty : TypeId} {pos : String} {af : Array Edge} {gd : Option (Nat × Bool)} {v : Value}
theorem pu_ixA {T E:TypeId} {m sz:Nat} {x y:Operand} {k:IntKind} {i:Int} {a:Addr} (a':Addr) (hu:P.underlying T=some (.array m E)) (hs:sizeB P E=some sz) (hx:evO t x=some (.pointer (some a))) (hy:evO t y=some (.int k i)) (h0:0<=i/\i<m) (ha:a.add (i.toNat*sz)=a') :
 Pur P r t ⟨d,.indexAddr T x y,ty,pos,af,gd⟩ (.pointer (some a')) :=
 ⟨rfl,fun w _=>by subst ha;simp [execOp,Instr.indexAt,Instr.sureAddr,asIntOf,ev_of hx,ev_of hy,Sem.run_bind,Result.andThen,run_underlying hu,run_sizeOf hs,h0.1,h0.2]⟩
theorem pu_slA {T E:TypeId} {m sz:Nat} {x y:Operand} {i:Nat} {b:Nat} (hu:P.underlying T=some (.array m E)) (hs:sizeB P E=some sz) (hx:evO t x=some (.pointer (some ⟨b,0,none⟩))) (hy:evO t y=some (.int .i64 (i:Int))) (h0:i<m) :
 Pur P r t ⟨d,.slice T x (some y) none none,ty,pos,af,gd⟩ (.slice (some ⟨b,i*sz,none⟩) (m - i) (m - i)) :=
 ⟨rfl,fun w _=>by
  have h1:¬ m=i:=by omega
  have h2:(0:Int)<=i/\(i:Int)<=m:=by omega
  simp [execOp,Instr.sliceAt,Instr.sureAddr,Instr.sliceBounds,Instr.sliceBound,asIntOf,ev_of hx,ev_of hy,Sem.run_bind,Result.andThen,run_underlying hu,run_sizeOf hs,h1,h2,Addr.add,Nat.le_of_lt h0]
  intro h;omega⟩
end
end Sx
open Sx
def TabR (r:Hp):Prop := ∃ c E fz,r 0=some (.cells c E fz)/\c[15]?=some (.int .u8 4)
theorem TabR.mono {r r':Hp} (h:TabR r) (hr:sub r r'):TabR r':=by
 obtain ⟨c,E,fz,h1,h2⟩:=h
 exact ⟨c,E,fz,hr _ _ h1,h2⟩
theorem pow2_any (r:Hp):Tri Tryz.prog r 178 [.int .i64 16] [] fun w H=>w = .bool true/\H=[]:=by
 refine Tri.free2 fun R HR=>?_
 refine ae Tryz.func178 Tryz.ntmps178 ?_
 repeat' (first|((with_reducible refine swo_kit ?_ ?_);rfl;intro w ds K' hK;gi_big_op;(with_reducible refine hK _ ?_);clear hK K' ds w)|exact xf|refine aw0 ?_|(refine ap2 ?_ ?_<;>try intro h)|refine aw1 ?_|(refine abx ?_;intro bb)|(refine abz ?_;intro bz)|(refine ahv ?_;intro v' hv')|(refine aac ?_;intro ac cc)|refine aw2 ?_|(refine ap4 ?_ ?_<;>try intro h)|apply True.intro)
 ((with_reducible apply fp_ret);exact res_1 rfl rfl)
 exact HR.out _ _ _ [] Takes.all ⟨congrArg Value.bool (by decide +kernel),rfl⟩
theorem deB:(IntKind.u64.wrap (bits BinOp.and IntKind.u64 16 (IntKind.u64.wrap (-16))*285870213051353865) / 288230376151711744)=15:=by decide +kernel
theorem tz64_any (r:Hp) (hT:TabR r):Tri Tryz.prog r 59 [.int .u64 16] [] fun w H=>w = .int .i64 4/\H=[]:=by
 obtain ⟨c,E,fz,h1,h2⟩:=hT
 refine Tri.free2 fun R HR=>?_
 refine ae Tryz.func59 Tryz.ntmps59 ?_
 repeat' (first|((with_reducible refine swo_kit ?_ ?_);rfl;intro w ds K' hK;gi_big_op;(with_reducible refine hK _ ?_);clear hK K' ds w)|(rw [deB])|((with_reducible apply swo_pur);(with_reducible apply pu_ixA ⟨0,15,none⟩ (T:=146) (sz:=1));exact Tryz.underlying146;exact ty_size;rfl;rfl;omega;rfl;(refine apk ?_))|((with_reducible apply kx_load);exact ty_agg;rfl;exact rd_r h1 h2;(refine apk ?_))|exact xf|refine aw0 ?_|(refine ap2 ?_ ?_<;>try intro h)|refine aw1 ?_|(refine abx ?_;intro bb)|(refine abz ?_;intro bz)|(refine ahv ?_;intro v' hv')|(refine aac ?_;intro ac cc)|refine aw2 ?_|(refine ap4 ?_ ?_<;>try intro h)|apply True.intro)
 ((with_reducible apply fp_ret);exact res_1 rfl rfl)
 exact HR.out _ _ _ [] Takes.all ⟨rfl,rfl⟩
theorem tz_any (r:Hp) (hT:TabR r):Tri Tryz.prog r 179 [.int .u64 16] [] fun w H=>w = .int .i64 4/\H=[]:=by
 refine Tri.free2 fun R HR=>?_
 have h:=tz64_any r hT
 refine ae Tryz.func179 Tryz.ntmps179 ?_
 repeat' (first|(refine acl Tryz.func59 ?_;refine acr (h) ?_;rintro v' H' ⟨rfl,rfl⟩;refine apl ?_)|exact xf|refine aw0 ?_|(refine ap2 ?_ ?_<;>try intro h)|refine aw1 ?_|(refine abx ?_;intro bb)|(refine abz ?_;intro bz)|(refine ahv ?_;intro v' hv')|(refine aac ?_;intro ac cc)|refine aw2 ?_|(refine ap4 ?_ ?_<;>try intro h)|apply True.intro)
 ((with_reducible apply fp_ret);exact res_1 rfl rfl)
 exact HR.out _ _ _ [] Takes.all ⟨rfl,rfl⟩
theorem and15 : ∀ c<256,bits BinOp.and IntKind.u64 ((c:Nat)+256:Int) 15=((c % 16:Nat):Int):=by decide +kernel
theorem and15b : ∀ c<256,bits BinOp.and IntKind.u64 (((c:Nat)+256:Int) / 16) 15=((c / 16:Nat):Int):=by decide +kernel
def digs:List UInt8:=[48,49,50,51,52,53,54,55,56,57,97,98,99,100,101,102,103,104,105,106,107,108,109,110,111,112,113,114,115,116,117,118,119,120,121,122]
theorem and15' {c:Nat} (h:c<256):bitI BinOp.and IntKind.u64 ((c:Nat)+256:Int) 15=((c % 16:Nat):Int):=(show bitI _ _ _ _=bits _ _ _ _ by unfold bitI;rfl).trans (and15 c h)
theorem and15b' {c:Nat} (h:c<256):bitI BinOp.and IntKind.u64 (((c:Nat)+256:Int) / 16) 15=((c / 16:Nat):Int):=(show bitI _ _ _ _=bits _ _ _ _ by unfold bitI;rfl).trans (and15b c h)
theorem digs_get : ∀ n<16,digs.getD n 0=hexD n:=by decide
def fbA0:Array Value:=Array.replicate 65 (.int .u8 0)
def fbA1 (c:Nat):Array Value:=fbA0.setIfInBounds 64 (.int .u8 ((hexD (c % 16)).toNat:Nat))
def fbA2 (c:Nat):Array Value:=(fbA1 c).setIfInBounds 63 (.int .u8 ((hexD (c / 16)).toNat:Nat))
def fbA3 (c:Nat):Array Value:=(fbA2 c).setIfInBounds 62 (.int .u8 (49:Nat))
theorem fb_size0:fbA0.size=65:=by simp [fbA0]
theorem fb_size1 (c:Nat):(fbA1 c).size=65:=by simp [fbA1,fb_size0]
theorem fb_size2 (c:Nat):(fbA2 c).size=65:=by simp [fbA2,fb_size1]
theorem fb_last (c:Nat):(fbA3 c)[62]?=some (.int .u8 (49:Nat))/\(fbA3 c)[63]?=some (.int .u8 ((hexD (c / 16)).toNat:Nat))/\(fbA3 c)[64]?=some (.int .u8 ((hexD (c % 16)).toNat:Nat)):=by
 unfold fbA3 fbA2 fbA1
 have h:=fb_size0
 refine ⟨?_,?_,?_⟩<;>simp [h]
theorem fb3 (c:Nat):(fbA2 c).setIfInBounds 62 (.int .u8 ((hexD 1).toNat:Nat))=fbA3 c:=rfl
theorem fb_sl {r:Hp} {b:Nat} {c:UInt8} {E:TypeId} {fz:Nat × Nat} (h:r b=some (.cells (fbA3 c.toNat) E fz)):Sl r 1 (.slice (some ⟨b,62*1,none⟩) (65 - 62) (65 - 62)) 3 (u8s (49::hex2 c)):=by
 obtain ⟨h1,h2,h3⟩:=fb_last c.toNat
 refine ⟨rfl,by simp [maxLen],.inr ⟨b,62,3,_,_,_,rfl,Nat.le_refl _,h,fun j hj=>?_⟩⟩
 have hj3:j<3:=hj
 match j,hj3 with
 | 0,_=>exact h1
 | 1,_=>exact h2
 | 2,_=>exact h3
attribute [irreducible] fbA0 fbA1 fbA2 fbA3
theorem fbits_any (r:Hp) (hT:TabR r) (c:UInt8):Tri Tryz.prog r 169 [.slice none 0 0,.int .u64 ((c.toNat:Nat)+256:Int),.int .i64 16,.bool false,.bool false] [] fun w H=>w = .tuple #[.slice none 0 0,.string (bs (49::hex2 c))]/\H=[]:=by
 refine Tri.free2 fun R HR=>?_
 have hp:=pow2_any r
 have ht:=tz_any r hT
 have hc:=c.toNat_lt
 refine ae Tryz.func169 Tryz.ntmps169 ?_
 repeat' (first|((with_reducible apply kx_alloc (z:= .agg fbA0));kernel_rfl;(exact qcl);intro b12;(refine apk ?_))|(refine acl Tryz.func178 ?_;refine acr (hp) ?_;rintro v' H' ⟨rfl,rfl⟩;refine apl ?_)|(refine acl Tryz.func179 ?_;refine acr (ht) ?_;rintro v' H' ⟨rfl,rfl⟩;refine apl ?_)|exact xf|refine aw0 ?_|(refine ap2 ?_ ?_<;>try intro h)|refine aw1 ?_|(refine abx ?_;intro bb)|(refine abz ?_;intro bz)|(refine ahv ?_;intro v' hv')|(refine aac ?_;intro ac cc)|refine aw2 ?_|(refine ap4 ?_ ?_<;>try intro h)|apply True.intro)
 refine sw_loop (fun gm t H' => ∃ (k:Nat) (u i:Int) (A:Array Value),gm=3 - k/\((k=0/\u=(c.toNat:Nat)+256/\i=65/\A=fbA0)\/(k=1/\u=((c.toNat:Nat)+256:Int) / 16/\i=64/\A=fbA1 c.toNat)\/(k=2/\u=((c.toNat:Nat)+256:Int) / 16 / 16/\i=63/\A=fbA2 c.toNat))/\(∃ G,Takes [pt b12 (.cells A 221 (0,0))] H' G)/\Sls t 102 [(0,.slice none 0 0),(1,.int .u64 u),(3,.bool false),(4,.bool false),(10,.slice none 0 0),(11,.string ⟨#[]⟩),(12,.pointer (some ⟨b12,0,none⟩)),(13,.int .i64 i),(14,.int .u64 4),(15,.int .u64 16),(16,.int .u64 15)]) _ ⟨0,_,_,_,rfl,.inl ⟨rfl,rfl,rfl,rfl⟩,⟨_,atks⟩,asls⟩ ?_
 rintro gm t H' ⟨k,u,i,A,rfl,hst,⟨G,hp⟩,hs'⟩
 revert t;refine sls_all ?_;iterate 91 intro uu'
 refine sw_takeG hp ?_;clear hp
 rcases hst with ⟨rfl,rfl,rfl,rfl⟩ | ⟨rfl,rfl,rfl,rfl⟩ | ⟨rfl,rfl,rfl,rfl⟩
 · repeat' (first|(rw [and15' hc])|((with_reducible apply swo_pur);(with_reducible apply pu_ixSN (l:=digs) (i:=c.toNat % 16));rfl;rfl;(show _<36;omega);(refine apk ?_))|(rw [digs_get _ (by omega)])|((with_reducible apply swo_pur);(with_reducible apply pu_ixA ⟨b12,64,none⟩ (T:=221) (sz:=1));exact Tryz.underlying221;exact ty_size;rfl;rfl;omega;rfl;(refine apk ?_))|((with_reducible apply kx_storeA);exact ty_size;rfl;rfl;(exact atk);rfl;(rw [fb_size0];omega);(refine apk ?_))|exact xf|refine aw0 ?_|(refine ap2 ?_ ?_<;>try intro h)|refine aw1 ?_|(refine abx ?_;intro bb)|(refine abz ?_;intro bz)|(refine ahv ?_;intro v' hv')|(refine aac ?_;intro ac cc)|refine aw2 ?_|(refine ap4 ?_ ?_<;>try intro h)|apply True.intro)
   exact ⟨_,by omega,1,_,_,_,rfl,.inr (.inl ⟨rfl,rfl,rfl,rfl⟩),⟨_,by unfold fbA1;exact atks⟩,asls⟩
 · repeat' (first|(rw [and15b' hc])|((with_reducible apply swo_pur);(with_reducible apply pu_ixSN (l:=digs) (i:=c.toNat / 16));rfl;rfl;(show _<36;omega);(refine apk ?_))|(rw [digs_get _ (by omega)])|((with_reducible apply swo_pur);(with_reducible apply pu_ixA ⟨b12,63,none⟩ (T:=221) (sz:=1));exact Tryz.underlying221;exact ty_size;rfl;rfl;omega;rfl;(refine apk ?_))|((with_reducible apply kx_storeA);exact ty_size;rfl;rfl;(exact atk);rfl;(rw [fb_size1];omega);(refine apk ?_))|exact xf|refine aw0 ?_|(refine ap2 ?_ ?_<;>try intro h)|refine aw1 ?_|(refine abx ?_;intro bb)|(refine abz ?_;intro bz)|(refine ahv ?_;intro v' hv')|(refine aac ?_;intro ac cc)|refine aw2 ?_|(refine ap4 ?_ ?_<;>try intro h)|apply True.intro)
   exact ⟨_,by omega,2,_,_,_,rfl,.inr (.inr ⟨rfl,rfl,rfl,rfl⟩),⟨_,by unfold fbA2;exact atks⟩,asls⟩
 · have h1:((c.toNat:Nat)+256:Int) / 16 / 16=((1:Nat):Int):=by omega
   rw [h1]
   repeat' (first|((with_reducible apply swo_pur);(with_reducible apply pu_ixSN (l:=digs) (i:=1));rfl;rfl;(show _<36;omega);(refine apk ?_))|(rw [digs_get _ (by decide)])|((with_reducible apply swo_pur);(with_reducible apply pu_ixA ⟨b12,62,none⟩ (T:=221) (sz:=1));exact Tryz.underlying221;exact ty_size;rfl;rfl;omega;rfl;(refine apk ?_))|((with_reducible apply kx_storeA);exact ty_size;rfl;rfl;(exact atk);rfl;(rw [fb_size2];omega);(refine apk ?_))|(rw [fb3])|((with_reducible apply swo_pur);(with_reducible apply pu_slA (T:=221) (sz:=1) (i:=62) (b:=b12));exact Tryz.underlying221;exact ty_size;rfl;rfl;omega;(refine apk ?_))|((with_reducible apply kx_lend [(b12,.cells (fbA3 c.toNat) 221 (0,0))]);(exact atks);intro r5 hl5;(with_reducible apply kx_b2sr (n:=3) (bl:=49::hex2 c));exact ty_el;kernel_rfl;kernel_rfl;rfl;exact fb_sl (Lent.h1 hl5);refine apm ?_)|exact xf|refine aw0 ?_|(refine ap2 ?_ ?_<;>try intro h)|refine aw1 ?_|(refine abx ?_;intro bb)|(refine abz ?_;intro bz)|(refine ahv ?_;intro v' hv')|(refine aac ?_;intro ac cc)|refine aw2 ?_|(refine ap4 ?_ ?_<;>try intro h)|apply True.intro)
   ((with_reducible apply fp_ret);exact res_2 rfl rfl rfl)
   exact HR.out _ _ _ [] Takes.all ⟨rfl,rfl⟩
theorem ifmt_any (r:Hp) (hT:TabR r) (c:UInt8):Tri Tryz.prog r 145 [.int .i64 ((c.toNat:Nat)+256:Int),.int .i64 16] [] fun w H=>w = .string (bs (49::hex2 c))/\H=[]:=by
 refine Tri.free2 fun R HR=>?_
 have hb:=fbits_any r hT c
 have hc:=c.toNat_lt
 refine ae Tryz.func145 Tryz.ntmps145 ?_
 repeat' (first|(refine acl Tryz.func169 ?_;refine acr (hb) ?_;rintro v' H' ⟨rfl,rfl⟩;refine apl ?_)|exact xf|refine aw0 ?_|(refine ap2 ?_ ?_<;>try intro h)|refine aw1 ?_|(refine abx ?_;intro bb)|(refine abz ?_;intro bz)|(refine ahv ?_;intro v' hv')|(refine aac ?_;intro ac cc)|refine aw2 ?_|(refine ap4 ?_ ?_<;>try intro h)|apply True.intro)
 ((with_reducible apply fp_ret);exact res_1 rfl rfl)
 exact HR.out _ _ _ [] Takes.all ⟨rfl,rfl⟩
theorem fmt_any (r:Hp) (hT:TabR r) (c:UInt8):Tri Tryz.prog r 117 [.int .i64 ((c.toNat:Nat)+256:Int),.int .i64 16] [] fun w H=>w = .string (bs (49::hex2 c))/\H=[]:=by
 refine Tri.free2 fun R HR=>?_
 have hb:=ifmt_any r hT c
 refine ae Tryz.func117 Tryz.ntmps117 ?_
 repeat' (first|(refine acl Tryz.func145 ?_;refine acr (hb) ?_;rintro v' H' ⟨rfl,rfl⟩;refine apl ?_)|exact xf|refine aw0 ?_|(refine ap2 ?_ ?_<;>try intro h)|refine aw1 ?_|(refine abx ?_;intro bb)|(refine abz ?_;intro bz)|(refine ahv ?_;intro v' hv')|(refine aac ?_;intro ac cc)|refine aw2 ?_|(refine ap4 ?_ ?_<;>try intro h)|apply True.intro)
 ((with_reducible apply fp_ret);exact res_1 rfl rfl)
 exact HR.out _ _ _ [] Takes.all ⟨rfl,rfl⟩
end Go.Proofs.YteknekiclhnkiaaGreatDoor
