/- mudlarklaw17.KnowSound: for every input it returns true. -/
import Derived.Test.YteknekiclhnkiaaGreatDoorYd
import Derived.Test.YteknekiclhnkiaaGreatDoorZl
import Derived.Test.YteknekiclhnkiaaGreatDoorZd
import Derived.Test.YteknekiclhnkiaaGreatDoorPb
import Derived.Test.YteknekiclhnkiaaGreatDoorVo
import Derived.Test.YteknekiclhnkiaaGreatDoorOm
set_option maxHeartbeats 16000000
set_option maxRecDepth 10000
namespace Go.Proofs.YteknekiclhnkiaaGreatDoor
open Go.RowKit Sx
theorem next_at {l:List Tx} {p:Tx->Prop} {i:Nat} (h : ∃ j,i<=j/\j<l.length/\p (l.getD j default)) (hn:¬ p (l.getD i default)) : ∃ j,i+1<=j/\j<l.length/\p (l.getD j default):=by
 obtain ⟨j,h1,h2,h3⟩:=h
 by_cases e:i=j
 · subst e;exact absurd h3 hn
 · exact ⟨j,by omega,h2,h3⟩
theorem first_at {l:List Tx} {p:Tx->Prop} (h : ∃ y∈l,p y) : ∃ j,0<=j/\j<l.length/\p (l.getD j default):=by
 obtain ⟨y,hy,hp⟩:=h
 obtain ⟨j,hj,rfl⟩:=List.getElem_of_mem hy
 exact ⟨j,Nat.zero_le _,hj,by rw [List.getD_eq_getElem?_getD,List.getElem?_eq_getElem hj];exact hp⟩
theorem has17_any (r:Hp) (v:Value) (l:List Tx) (x:Tx) (hl:Els r 1 encTx v l) (hx:x∈l):Tri Tryz.prog r 11 [v,.string (bs x)] [] fun w H=>w = .bool true/\H=[]:=by
 have hlm:=maxI hl.2.2.1
 have h0:=first_at (p:=fun y=>y=x) ⟨x,hx,rfl⟩
 refine Tri.free2 fun R HR=>?_
 refine ae Tryz.func11 Tryz.ntmps11 ?_
 repeat' (first|exact xf|refine aw0 ?_|(refine ap2 ?_ ?_<;>try intro h)|refine aw1 ?_|(refine abx ?_;intro bb)|(refine abz ?_;intro bz)|(refine ahv ?_;intro v' hv')|(refine aac ?_;intro ac cc)|refine aw2 ?_|(refine ap4 ?_ ?_<;>try intro h)|apply True.intro)
 refine sw_loop (fun gm t H' => ∃ (i:Nat),gm=l.length+1 - i/\(i<=l.length)/\(∃ j,i<=j/\j<l.length/\l.getD j default=x)/\(∃ G,Takes [] H' G)/\Sls t 18 [(0,v),(1,.string (bs x)),(5,.int .i64 (i:Nat))]) _ ⟨0,rfl,Nat.zero_le _,h0,⟨_,atks⟩,asls⟩ ?_
 rintro gm t H' ⟨i,rfl,hi,hat,⟨G,hp⟩,hs'⟩
 revert t;refine sls_all ?_;iterate 15 intro uu'
 refine sw_takeG hp ?_;clear hp
 have hlt:i<l.length:=by obtain ⟨j,h1,h2,_⟩:=hat;omega
 obtain ⟨y,hy⟩ : ∃ y,l.getD i default=y:=⟨_,rfl⟩
 by_cases hyx:y=x
 · subst hyx
   repeat' (first|(rw [hy])|exact xf|refine aw0 ?_|(refine ap2 ?_ ?_<;>try intro h)|refine aw1 ?_|(refine abx ?_;intro bb)|(refine abz ?_;intro bz)|(refine ahv ?_;intro v' hv')|(refine aac ?_;intro ac cc)|refine aw2 ?_|(refine ap4 ?_ ?_<;>try intro h)|apply True.intro)
   all_goals
    ((with_reducible apply fp_ret);exact res_1 rfl rfl)
    exact HR.out _ _ _ [] atks ⟨rfl,rfl⟩
 · have hnx:=next_at (p:=fun y=>y=x) hat (by rw [hy];exact hyx)
   repeat' (first|(rw [hy])|exact xf|refine aw0 ?_|(refine ap2 ?_ ?_<;>try intro h)|refine aw1 ?_|(refine abx ?_;intro bb)|(refine abz ?_;intro bz)|(refine ahv ?_;intro v' hv')|(refine aac ?_;intro ac cc)|refine aw2 ?_|(refine ap4 ?_ ?_<;>try intro h)|apply True.intro)
   exact ⟨_,by omega,i+1,rfl,by omega,hnx,⟨_,atks⟩,asls⟩
theorem begins17_any (r:Hp) (v:Value) (l:List Tx) (x:Tx) (hl:Els r 1 encTx v l) (hx : ∃ p∈l,p <+: x) (hxl:x.length<=1000):Tri Tryz.prog r 12 [v,.string (bs x)] [] fun w H=>w = .bool true/\H=[]:=by
 have hlm:=maxI hl.2.2.1
 have h0:=first_at (p:=fun y=>y <+: x) hx
 refine Tri.free2 fun R HR=>?_
 refine ae Tryz.func12 Tryz.ntmps12 ?_
 repeat' (first|exact xf|refine aw0 ?_|(refine ap2 ?_ ?_<;>try intro h)|refine aw1 ?_|(refine abx ?_;intro bb)|(refine abz ?_;intro bz)|(refine ahv ?_;intro v' hv')|(refine aac ?_;intro ac cc)|refine aw2 ?_|(refine ap4 ?_ ?_<;>try intro h)|apply True.intro)
 refine sw_loop (fun gm t H' => ∃ (i:Nat),gm=l.length+1 - i/\(i<=l.length)/\(∃ j,i<=j/\j<l.length/\l.getD j default <+: x)/\(∃ G,Takes [] H' G)/\Sls t 34 [(0,v),(1,.string (bs x)),(5,.int .i64 (i:Nat))]) _ ⟨0,rfl,Nat.zero_le _,h0,⟨_,atks⟩,asls⟩ ?_
 rintro gm t H' ⟨i,rfl,hi,hat,⟨G,hp⟩,hs'⟩
 revert t;refine sls_all ?_;iterate 31 intro uu'
 refine sw_takeG hp ?_;clear hp
 have hlt:i<l.length:=by obtain ⟨j,h1,h2,_⟩:=hat;omega
 obtain ⟨y,hy⟩ : ∃ y,l.getD i default=y:=⟨_,rfl⟩
 by_cases hyx:y <+: x
 · have hyl:=hyx.length_le
   have hyt:List.take ((y.length:Int).toNat - 0) (List.drop 0 x)=y:=by
    rw [List.drop_zero,show (y.length:Int).toNat - 0=y.length by omega]
    exact (List.prefix_iff_eq_take.1 hyx).symm
   repeat' (first|(rw [hy])|(rw [hyt])|((((with_reducible apply sw_draw (id:=4) 22 [(0,true),(1,true),(2,true),(3,true),(4,true),(5,true),(6,true),(7,true),(8,true),(9,true),(10,true),(11,true),(12,true),(13,true),(14,true),(15,true),(16,true),(17,true),(18,true),(19,true),(20,true),(21,true)] [] []);kernel_rfl;(exact atks);kernel_rfl;intro r' hl'));have hl2:=hl.mono hl'.1)|exact xf|refine aw0 ?_|(refine ap2 ?_ ?_<;>try intro h)|refine aw1 ?_|(refine abx ?_;intro bb)|(refine abz ?_;intro bz)|(refine ahv ?_;intro v' hv')|(refine aac ?_;intro ac cc)|refine aw2 ?_|(refine ap4 ?_ ?_<;>try intro h)|apply True.intro)
   all_goals
    ((with_reducible apply fp_ret);exact res_1 rfl rfl)
    exact HR.out _ _ _ [] atks ⟨rfl,rfl⟩
 · have hnx:=next_at (p:=fun y=>y <+: x) hat (by rw [hy];exact hyx)
   repeat' (first|(rw [hy])|((((with_reducible apply sw_draw (id:=4) 22 [(0,true),(1,true),(2,true),(3,true),(4,true),(5,true),(6,true),(7,true),(8,true),(9,true),(10,true),(11,true),(12,true),(13,true),(14,true),(15,true),(16,true),(17,true),(18,true),(19,true),(20,true),(21,true)] [] []);kernel_rfl;(exact atks);kernel_rfl;intro r' hl'));have hl2:=hl.mono hl'.1)|exact xf|refine aw0 ?_|(refine ap2 ?_ ?_<;>try intro h)|refine aw1 ?_|(refine abx ?_;intro bb)|(refine abz ?_;intro bz)|(refine ahv ?_;intro v' hv')|(refine aac ?_;intro ac cc)|refine aw2 ?_|(refine ap4 ?_ ?_<;>try intro h)|apply True.intro)
   · ((with_reducible apply fp_ret);exact res_1 rfl rfl)
     exact HR.out _ _ _ [] atks ⟨rfl,rfl⟩
   all_goals
    exact ⟨_,by omega,i+1,rfl,by omega,hnx,⟨_,atks⟩,asls⟩
theorem ends17_any (r:Hp) (v:Value) (l:List Tx) (x:Tx) (hl:Els r 1 encTx v l) (hx : ∃ p∈l,p <:+ x) (hxl:x.length<=1000):Tri Tryz.prog r 13 [v,.string (bs x)] [] fun w H=>w = .bool true/\H=[]:=by
 have hlm:=maxI hl.2.2.1
 have h0:=first_at (p:=fun y=>y <:+ x) hx
 refine Tri.free2 fun R HR=>?_
 refine ae Tryz.func13 Tryz.ntmps13 ?_
 repeat' (first|exact xf|refine aw0 ?_|(refine ap2 ?_ ?_<;>try intro h)|refine aw1 ?_|(refine abx ?_;intro bb)|(refine abz ?_;intro bz)|(refine ahv ?_;intro v' hv')|(refine aac ?_;intro ac cc)|refine aw2 ?_|(refine ap4 ?_ ?_<;>try intro h)|apply True.intro)
 refine sw_loop (fun gm t H' => ∃ (i:Nat),gm=l.length+1 - i/\(i<=l.length)/\(∃ j,i<=j/\j<l.length/\l.getD j default <:+ x)/\(∃ G,Takes [] H' G)/\Sls t 37 [(0,v),(1,.string (bs x)),(5,.int .i64 (i:Nat))]) _ ⟨0,rfl,Nat.zero_le _,h0,⟨_,atks⟩,asls⟩ ?_
 rintro gm t H' ⟨i,rfl,hi,hat,⟨G,hp⟩,hs'⟩
 revert t;refine sls_all ?_;iterate 34 intro uu'
 refine sw_takeG hp ?_;clear hp
 have hlt:i<l.length:=by obtain ⟨j,h1,h2,_⟩:=hat;omega
 obtain ⟨y,hy⟩ : ∃ y,l.getD i default=y:=⟨_,rfl⟩
 by_cases hyx:y <:+ x
 · have hyl:=hyx.length_le
   have hyt:List.take (((x.length:Nat):Int).toNat - (((x.length:Nat):Int) - ((y.length:Nat):Int)).toNat) (List.drop (((x.length:Nat):Int) - ((y.length:Nat):Int)).toNat x)=y:=by
    rw [show (((x.length:Nat):Int) - ((y.length:Nat):Int)).toNat=x.length - y.length by omega,show ((x.length:Nat):Int).toNat - (x.length - y.length)=y.length by omega,← List.suffix_iff_eq_drop.1 hyx]
    exact List.take_length
   repeat' (first|(rw [hy])|(rw [hyt])|((((with_reducible apply sw_draw (id:=4) 25 [(0,true),(1,true),(2,true),(3,true),(4,true),(5,true),(6,true),(7,true),(8,true),(9,true),(10,true),(11,true),(12,true),(13,true),(14,true),(15,true),(16,true),(17,true),(18,true),(19,true),(20,true),(21,true),(22,true),(23,true),(24,true)] [] []);kernel_rfl;(exact atks);kernel_rfl;intro r' hl'));have hl2:=hl.mono hl'.1)|exact xf|refine aw0 ?_|(refine ap2 ?_ ?_<;>try intro h)|refine aw1 ?_|(refine abx ?_;intro bb)|(refine abz ?_;intro bz)|(refine ahv ?_;intro v' hv')|(refine aac ?_;intro ac cc)|refine aw2 ?_|(refine ap4 ?_ ?_<;>try intro h)|apply True.intro)
   all_goals
    ((with_reducible apply fp_ret);exact res_1 rfl rfl)
    exact HR.out _ _ _ [] atks ⟨rfl,rfl⟩
 · have hnx:=next_at (p:=fun y=>y <:+ x) hat (by rw [hy];exact hyx)
   repeat' (first|(rw [hy])|((((with_reducible apply sw_draw (id:=4) 25 [(0,true),(1,true),(2,true),(3,true),(4,true),(5,true),(6,true),(7,true),(8,true),(9,true),(10,true),(11,true),(12,true),(13,true),(14,true),(15,true),(16,true),(17,true),(18,true),(19,true),(20,true),(21,true),(22,true),(23,true),(24,true)] [] []);kernel_rfl;(exact atks);kernel_rfl;intro r' hl'));have hl2:=hl.mono hl'.1)|exact xf|refine aw0 ?_|(refine ap2 ?_ ?_<;>try intro h)|refine aw1 ?_|(refine abx ?_;intro bb)|(refine abz ?_;intro bz)|(refine ahv ?_;intro v' hv')|(refine aac ?_;intro ac cc)|refine aw2 ?_|(refine ap4 ?_ ?_<;>try intro h)|apply True.intro)
   · ((with_reducible apply fp_ret);exact res_1 rfl rfl)
     exact HR.out _ _ _ [] atks ⟨rfl,rfl⟩
   all_goals
    exact ⟨_,by omega,i+1,rfl,by omega,hnx,⟨_,atks⟩,asls⟩
end Go.Proofs.YteknekiclhnkiaaGreatDoor
namespace Go.Proofs.YteknekiclhnkiaaGreatDoor
open Go.RowKit
namespace Sx
theorem pu_b2sr {P:Program} {r:Hp} {t:List Value} {d:Option Tmp} {ty:TypeId} {pos:String} {af:Array Edge} {gd:Option (Nat × Bool)} {src dst e:TypeId} {n:Nat} {v:Value} {x:Operand} {bl:List UInt8} (hT:elB P src=some e) (h8:u8B P e=true) (hd:strB P dst=true) (hx:evO t x=some v) (hv:Sl r 1 v n (u8s bl)):Pur P r t ⟨d,.convert src dst x,ty,pos,af,gd⟩ (.string (bs bl)) :=
 ⟨rfl,fun w hw=>by
  have:=run_b2s (w:=w) hT h8 hd hv hw
  simp only [execOp,Sem.run_bind,ev_of hx,this,Result.andThen,Sem.run_pure]⟩
end Sx
open Sx
theorem size_closedK {i:InfK} (h:FitI i):sizeQ (closedK i)<=9000000:=by
 obtain ⟨h1,h2,h3,_,_,_⟩:=loose_fit h
 have h4:=h.m
 have h5:=size_andQ [(looseK i).m,gramsRow (looseK i).pre,gramsRow (looseK i).suf]
 have h6:=size_gramsRow (looseK i).pre
 have h7:=size_gramsRow (looseK i).suf
 simp only [sizeQs] at h5
 unfold closedK
 omega
theorem has_there (s:Tx):hasT (sortBy id (partsT s))=thereS s:=by
 funext g
 unfold hasT thereS
 by_cases h:g∈partsT s
 · rw [decide_eq_true h,decide_eq_true ((mem_row (l:=partsT s)).2 h),decide_eq_true (partsT_len3 g h)];rfl
 · rw [decide_eq_false h,decide_eq_false fun e=>h ((mem_row (l:=partsT s)).1 e)];rfl
theorem knowSound_of (r:Hp) (hT:TabF r) (k:Int) (s0 s1 s2 s3:Nat) (kv:Value) (l:List NoV) (mn mx:Int) (lz:Bool) (gr:Int) (hn:NoR r (.mk k s0 s1 s2 s3 kv l mn mx lz gr)) (v:Value) (s:Tx) (hv:U8S r v s) (hv1:one? v=true):Tri Tryz.prog r 3 [.agg [.int .i64 k,.int .u64 s0,.int .u64 s1,.int .u64 s2,.int .u64 s3,kv,.int .i64 mn,.int .i64 mx,.bool lz,.int .i64 gr].toArray,v] [] fun w H=>w = .bool true/\H=[]:=by
 have hTR:=hT.tab
 have hk1:=(noR_kids hn).2.2
 have haw:=awake17_any r hTR
 have hde:Tri Tryz.prog r 5 [.agg [.int .i64 k,.int .u64 s0,.int .u64 s1,.int .u64 s2,.int .u64 s3,kv,.int .i64 mn,.int .i64 mx,.bool lz,.int .i64 gr].toArray,.int .i64 60] [] fun w H=>(∃ d:Nat,w = .int .i64 (d:Nat)/\d<=60+1/\(d<=60->hgtN (NoV.key (.mk k s0 s1 s2 s3 kv l mn mx lz gr))<=d))/\H=[]:=deepH_any (.mk k s0 s1 s2 s3 kv l mn mx lz gr) 60 (by omega) r hn
 have hno:hgtN (NoV.key (.mk k s0 s1 s2 s3 kv l mn mx lz gr))<=60->Tri Tryz.prog r 6 [.agg [.int .i64 k,.int .u64 s0,.int .u64 s1,.int .u64 s2,.int .u64 s3,kv,.int .i64 mn,.int .i64 mx,.bool lz,.int .i64 gr].toArray,.int .i64 300] [] fun w H=>(∃ c:Nat,w = .int .i64 (c:Nat)/\c<=300+hgtN (NoV.key (.mk k s0 s1 s2 s3 kv l mn mx lz gr))+1/\(c<=300->c=sizN (NoV.key (.mk k s0 s1 s2 s3 kv l mn mx lz gr))))/\H=[]:=fun h=>nodeH_any (.mk k s0 s1 s2 s3 kv l mn mx lz gr) (by omega) r hn 300 (by omega)
 have hri:sizN (NoV.key (.mk k s0 s1 s2 s3 kv l mn mx lz gr))<=1000->Tri Tryz.prog r 7 [.agg [.int .i64 k,.int .u64 s0,.int .u64 s1,.int .u64 s2,.int .u64 s3,kv,.int .i64 mn,.int .i64 mx,.bool lz,.int .i64 gr].toArray] [] fun w H=>(∃ b,w = .bool b/\(b=true->AllN nodeOk (NoV.key (.mk k s0 s1 s2 s3 kv l mn mx lz gr))))/\H=[]:=fun h=>tright_any (.mk k s0 s1 s2 s3 kv l mn mx lz gr) h r hn
 have hsi:sizN (NoV.key (.mk k s0 s1 s2 s3 kv l mn mx lz gr))<=1000->Tri Tryz.prog r 8 [.agg [.int .i64 k,.int .u64 s0,.int .u64 s1,.int .u64 s2,.int .u64 s3,kv,.int .i64 mn,.int .i64 mx,.bool lz,.int .i64 gr].toArray] [] fun w H=>w = .int .i64 (sizN (NoV.key (.mk k s0 s1 s2 s3 kv l mn mx lz gr)):Nat)/\H=[]:=fun h=>tsize_any r k s0 s1 s2 s3 kv l mn mx lz gr hn _ (by unfold sizL;simp only [List.map_cons,List.map_nil,sizNs];omega) h
 have hof:AllN nodeOk (NoV.key (.mk k s0 s1 s2 s3 kv l mn mx lz gr))->sizN (NoV.key (.mk k s0 s1 s2 s3 kv l mn mx lz gr))<=60->Tri Tryz.prog r 9 [.agg [.int .i64 k,.int .u64 s0,.int .u64 s1,.int .u64 s2,.int .u64 s3,kv,.int .i64 mn,.int .i64 mx,.bool lz,.int .i64 gr].toArray] [] fun w H => ∃ u:InfV,u.key=ofI (NoV.key (.mk k s0 s1 s2 s3 kv l mn mx lz gr))/\(encQ u.q).all one?=true/\w = .agg [.bool u.known,.slice u.ea u.ex.length u.ec,.slice u.pa u.pre.length u.pc,.slice u.sa u.suf.length u.sc,.int .i64 u.q.kind,u.q.gv,u.q.sv].toArray/\H=[OwnI u]:=fun h1 h2=>of_all (.mk k s0 s1 s2 s3 kv l mn mx lz gr) h1 h2 r hTR hn
 have hspn:s.length<=24->sizN (NoV.key (.mk k s0 s1 s2 s3 kv l mn mx lz gr))<=60->Tri Tryz.prog r 10 [.agg [.int .i64 k,.int .u64 s0,.int .u64 s1,.int .u64 s2,.int .u64 s3,kv,.int .i64 mn,.int .i64 mx,.bool lz,.int .i64 gr].toArray,v] [] fun w H => ∃ (L:List (Nat × Nat)) (a:Option Addr) (c:Nat),(L.length<=25*33554432 /\ ∀ p∈L,matN PT s (NoV.key (.mk k s0 s1 s2 s3 kv l mn mx lz gr)) p.1 p.2)/\w = .slice a L.length c/\H=[PrC a c L]:=fun h1 h2=>spans_any r hT v s hv h1 hv1 k s0 s1 s2 s3 kv l mn mx lz gr hn (tright_any _ (by omega)) h2
 have hfit:=fun h=>of_fit (n:=NoV.key (.mk k s0 s1 s2 s3 kv l mn mx lz gr)) h
 have hle:=(of_good PT s (NoV.key (.mk k s0 s1 s2 s3 kv l mn mx lz gr))).le
 have hlaw:=fun a b=>sound_law PT s (NoV.key (.mk k s0 s1 s2 s3 kv l mn mx lz gr)) (a:=a) (b:=b)
 obtain ⟨N,hN⟩ : ∃ N,NoV.key (.mk k s0 s1 s2 s3 kv l mn mx lz gr)=N:=⟨_,rfl⟩
 rw [hN] at hde hno hri hsi hof hspn hle hlaw hfit
 obtain ⟨M,hM⟩ : ∃ M,matN PT s N=M:=⟨_,rfl⟩
 rw [hM] at hspn hle hlaw
 obtain ⟨I,hI⟩ : ∃ I,ofI N=I:=⟨_,rfl⟩
 rw [hI] at hof hlaw hfit
 obtain ⟨SZ,hSZ⟩ : ∃ SZ,sizN N=SZ:=⟨_,rfl⟩
 rw [hSZ] at hno hri hsi hof hspn hfit
 obtain ⟨HG,hHG⟩ : ∃ HG,hgtN N=HG:=⟨_,rfl⟩
 rw [hHG] at hde hno
 clear hN hM hI hSZ hHG hn
 have hvl:=hv.2.1
 have hvm:=maxI hvl
 refine Tri.free2 fun R HR=>?_
 refine ae Tryz.func3 Tryz.ntmps3 ?_
 repeat' (first|((with_reducible apply kx_box);rfl;(exact qcl);intro b2;(refine apk ?_))|(refine acl Tryz.func4 ?_;refine acr (haw) ?_;rintro v' H' ⟨rfl,rfl⟩;refine apl ?_)|(refine acl Tryz.func5 ?_;refine acr (hde) ?_;rintro v' H' ⟨⟨d,rfl,hd,hdd⟩,rfl⟩;refine apl ?_)|(refine acl Tryz.func6 ?_;refine acr (hno (by have:=hdd (by omega);omega)) ?_;rintro v' H' ⟨⟨c,rfl,hc,hce⟩,rfl⟩;refine apl ?_)|(refine acl Tryz.func7 ?_;refine acr (hri (by have:=hce (by omega);omega)) ?_;rintro v' H' ⟨⟨p,rfl,hp⟩,rfl⟩;cases p;all_goals refine apl ?_)|(refine acl Tryz.func8 ?_;refine acr (hsi (by have:=hce (by omega);omega)) ?_;rintro v' H' ⟨rfl,rfl⟩;refine apl ?_)|exact xf|refine aw0 ?_|(refine ap2 ?_ ?_<;>try intro h)|refine aw1 ?_|(refine abx ?_;intro bb)|(refine abz ?_;intro bz)|(refine ahv ?_;intro v' hv')|(refine aac ?_;intro ac cc)|refine aw2 ?_|(refine ap4 ?_ ?_<;>try intro h)|apply True.intro)
 all_goals first|(((with_reducible apply fp_ret);exact res_1 rfl rfl);exact HR.out _ _ _ [] atks ⟨rfl,rfl⟩)|skip
 have hl24:s.length<=24:=by omega
 have hs60:SZ<=60:=by omega
 have hofN:=hof (hp rfl) hs60
 have hspN:=hspn hl24 hs60
 have hfi:=hfit hs60
 clear hof hspn hfit hri hsi hno hde haw
 repeat' (first|(refine acl Tryz.func9 ?_;refine acr (hofN) ?_;rintro v' H' ⟨u,hu1,hu2,rfl,rfl⟩;refine apl ?_)|((with_reducible apply kx_alloc (E:=40));exact ty_zero;(exact qcl);intro b5;(refine apk ?_))|((with_reducible apply kx_storeN);exact ty_size;rfl;rfl;rfl;(exact qsw);exact encI_one hu2;(exact qst);(refine apk ?_))|(refine acl Tryz.func10 ?_;refine acr (hspN) ?_;rintro v' H' ⟨L,a,c9,⟨hLl,hLm⟩,rfl,rfl⟩;refine apl ?_)|exact xf|refine aw0 ?_|(refine ap2 ?_ ?_<;>try intro h)|refine aw1 ?_|(refine abx ?_;intro bb)|(refine abz ?_;intro bz)|(refine ahv ?_;intro v' hv')|(refine aac ?_;intro ac cc)|refine aw2 ?_|(refine ap4 ?_ ?_<;>try intro h)|apply True.intro)
 refine sw_lendQ (A:=PrC a c9 L) atk fun r2 g2 hr2 hg2 hA2=>?_
 refine sw_lendQ (A:=OwnI u) atk fun r3 g3 hr3 hg3 hA3=>?_
 have hE:Els r3 2 encP (.slice a L.length c9) L:=⟨encP_len,(hA2.sl hg2).mono hr3⟩
 have hU:=ownI_read hA3 hg3
 have hv3:=(hv.mono hr2).mono hr3
 have hlm:=maxI hE.2.2.1
 refine sw_loop (fun gm t H' => ∃ (i:Nat),gm=L.length+1 - i/\(i<=L.length)/\(∃ G,Takes [ibox b5 u] H' G)/\Sls t 96 [(1,v),(5,.pointer (some ⟨b5,0,none⟩)),(6,.slice a L.length c9),(7,.int .i64 (i:Nat))]) _ ⟨0,rfl,Nat.zero_le _,⟨_,atks⟩,asls⟩ ?_
 rintro gm t H' ⟨i,rfl,hi,⟨G,hp⟩,hs'⟩
 revert t;refine sls_all ?_;iterate 92 intro uu'
 refine sw_takeG hp ?_;clear hp
 by_cases hlt:i<L.length
 · obtain ⟨p,hx⟩ : ∃ p,L.getD i default=p:=⟨_,rfl⟩
   have hpm:p∈L:=hx ▸ getD_memU hlt
   have hMp:=hLm p hpm
   obtain ⟨hle1,hle2⟩:=hle _ _ hMp
   obtain ⟨hsn,_⟩:=hlaw _ _ hMp
   obtain ⟨pa,pb⟩:=p
   dsimp only at hle1 hle2 hsn
   rw [← hu1] at hsn
   have hcv : ∀ (r':Hp) (v':Value),Sl r' 1 v' (List.take (((pb:Nat):Int).toNat - ((pa:Nat):Int).toNat) (List.drop ((pa:Nat):Int).toNat s)).length (u8s (List.take (((pb:Nat):Int).toNat - ((pa:Nat):Int).toNat) (List.drop ((pa:Nat):Int).toNat s)))->Sl r' 1 v' (sliceT s pa pb).length (u8s (sliceT s pa pb)):=fun r' v' h=>by
    rw [Int.toNat_natCast,Int.toNat_natCast] at h;exact h
   have hxl:(sliceT s pa pb).length<=1000:=by unfold sliceT;rw [List.length_take,List.length_drop];omega
   obtain ⟨x,hX⟩ : ∃ x,sliceT s pa pb=x:=⟨_,rfl⟩
   rw [hX] at hcv hsn hxl
   cases hk:u.known
   · have hbg:=begins17_any r3 _ u.pre x hU.pre (hsn.pre hk) hxl
     have hed:=ends17_any r3 _ u.suf x hU.suf (hsn.suf hk) hxl
     repeat' (first|(rw [hx])|(rw [hk])|((((with_reducible apply sw_draw (id:=10) 13 [(0,true),(1,true),(2,true),(3,true),(4,true),(5,true),(6,true),(7,true),(8,true),(9,true),(10,true),(11,true),(12,true)] [(13,false)] []);kernel_rfl;(exact atks);kernel_rfl;intro r' hl'));have hE2:=hE.mono hl'.1;have hv4:=hv3.mono hl'.1)|(first|((with_reducible apply pi_pur);rfl;(exact qwt);(with_reducible apply (pu_ixArr (q:=0) (sz:=1)));exact Tryz.underlying44;exact ty_size;rfl;rfl;(first|rfl|omega);(omega);(refine apk ?_))|((with_reducible apply swo_pur);(with_reducible apply (pu_ixArr (q:=0) (sz:=1)));exact Tryz.underlying44;exact ty_size;rfl;rfl;(first|rfl|omega);(omega);(refine apk ?_)))|(first|((with_reducible apply pi_pur);rfl;(exact qwt);(with_reducible apply (pu_ixArr (q:=1) (sz:=1)));exact Tryz.underlying44;exact ty_size;rfl;rfl;(first|rfl|omega);(omega);(refine apk ?_))|((with_reducible apply swo_pur);(with_reducible apply (pu_ixArr (q:=1) (sz:=1)));exact Tryz.underlying44;exact ty_size;rfl;rfl;(first|rfl|omega);(omega);(refine apk ?_)))|((with_reducible apply pi_pur);rfl;(exact qwt);(with_reducible apply (pu_b2sr (bl:=x)));exact ty_el;kernel_rfl;kernel_rfl;rfl;exact hcv _ _ hv';(refine apk ?_))|(refine acl Tryz.func12 ?_;refine acr (hbg) ?_;rintro v' H' ⟨rfl,rfl⟩;refine apl ?_)|(refine acl Tryz.func13 ?_;refine acr (hed) ?_;rintro v' H' ⟨rfl,rfl⟩;refine apl ?_)|exact xf|refine aw0 ?_|(refine ap2 ?_ ?_<;>try intro h)|refine aw1 ?_|(refine abx ?_;intro bb)|(refine abz ?_;intro bz)|(refine ahv ?_;intro v' hv')|(refine aac ?_;intro ac cc)|refine aw2 ?_|(refine ap4 ?_ ?_<;>try intro h)|apply True.intro)
     exact ⟨_,by omega,i+1,rfl,by omega,⟨_,atks⟩,asls⟩
   · have hha:=has17_any r3 _ u.ex x hU.ex (hsn.ex hk)
     repeat' (first|(rw [hx])|(rw [hk])|((((with_reducible apply sw_draw (id:=10) 13 [(0,true),(1,true),(2,true),(3,true),(4,true),(5,true),(6,true),(7,true),(8,true),(9,true),(10,true),(11,true),(12,true)] [(13,false)] []);kernel_rfl;(exact atks);kernel_rfl;intro r' hl'));have hE2:=hE.mono hl'.1;have hv4:=hv3.mono hl'.1)|(first|((with_reducible apply pi_pur);rfl;(exact qwt);(with_reducible apply (pu_ixArr (q:=0) (sz:=1)));exact Tryz.underlying44;exact ty_size;rfl;rfl;(first|rfl|omega);(omega);(refine apk ?_))|((with_reducible apply swo_pur);(with_reducible apply (pu_ixArr (q:=0) (sz:=1)));exact Tryz.underlying44;exact ty_size;rfl;rfl;(first|rfl|omega);(omega);(refine apk ?_)))|(first|((with_reducible apply pi_pur);rfl;(exact qwt);(with_reducible apply (pu_ixArr (q:=1) (sz:=1)));exact Tryz.underlying44;exact ty_size;rfl;rfl;(first|rfl|omega);(omega);(refine apk ?_))|((with_reducible apply swo_pur);(with_reducible apply (pu_ixArr (q:=1) (sz:=1)));exact Tryz.underlying44;exact ty_size;rfl;rfl;(first|rfl|omega);(omega);(refine apk ?_)))|((with_reducible apply pi_pur);rfl;(exact qwt);(with_reducible apply (pu_b2sr (bl:=x)));exact ty_el;kernel_rfl;kernel_rfl;rfl;exact hcv _ _ hv';(refine apk ?_))|(refine acl Tryz.func11 ?_;refine acr (hha) ?_;rintro v' H' ⟨rfl,rfl⟩;refine apl ?_)|exact xf|refine aw0 ?_|(refine ap2 ?_ ?_<;>try intro h)|refine aw1 ?_|(refine abx ?_;intro bb)|(refine abz ?_;intro bz)|(refine ahv ?_;intro v' hv')|(refine aac ?_;intro ac cc)|refine aw2 ?_|(refine ap4 ?_ ?_<;>try intro h)|apply True.intro)
     exact ⟨_,by omega,i+1,rfl,by omega,⟨_,atks⟩,asls⟩
 · obtain rfl:i=L.length:=by omega
   have hcl:Tri Tryz.prog r 15 [.agg [.bool u.known,.slice u.ea u.ex.length u.ec,.slice u.pa u.pre.length u.pc,.slice u.sa u.suf.length u.sc,.int .i64 u.q.kind,u.q.gv,u.q.sv].toArray] [OwnI u] fun w H => ∃ q:QuV,q.key=closedK I/\(encQ q).all one?=true/\w = .agg [.int .i64 q.kind,q.gv,q.sv].toArray/\H=[OwnQ q]:=Tri.frz fun r' g s1 t1 h=>by
    have h3:=closed_any r' (hTR.mono s1) u (ownI_read h t1) (by rw [hu1];exact hfi) hu2
    rw [hu1] at h3
    exact h3
   have hgg:=ggrams_any r v s hv (by omega)
   have hcz:=size_closedK hfi
   have hGz:sizeT (sortBy id (partsT s))<=9000000:=by
    have h1:=sizeT_row (partsT s)
    have h2:=size_parts3 s
    have h3:sizeT (sortBy id (partsT s))<=sizeT (partsT s):=h1
    omega
   have hsa : ∀ (q:QuV) (a:Option Addr) (c:Nat),q.key=closedK I->Tri Tryz.prog r 14 [.agg [.int .i64 q.kind,q.gv,q.sv].toArray,.slice a (sortBy id (partsT s)).length c] [OwnQ q,TxC a c (sortBy id (partsT s))] fun w H=>w = .bool (satQ (thereS s) (closedK I))/\H=[]:=fun q a c e=>Tri.frz fun r1 g1 s1 t1 h1=>Tri.frz fun r2 g2 s2 t2 h2=>by
    have h:=sat_any r2 _ q _ ((own_read h1 t1).mono s2) (txC_els h2 t2) (by rw [e];exact hcz) hGz
    rw [e,has_there] at h
    exact h
   obtain ⟨G,hG⟩ : ∃ G,sortBy id (partsT s)=G:=⟨_,rfl⟩
   rw [hG] at hgg hsa
   clear hG hGz
   by_cases h0:L.length=0
   · repeat' (first|exact xf|refine aw0 ?_|(refine ap2 ?_ ?_<;>try intro h)|refine aw1 ?_|(refine abx ?_;intro bb)|(refine abz ?_;intro bz)|(refine ahv ?_;intro v' hv')|(refine aac ?_;intro ac cc)|refine aw2 ?_|(refine ap4 ?_ ?_<;>try intro h)|apply True.intro)
     ((with_reducible apply fp_ret);exact res_1 rfl rfl)
     exact HR.out _ _ _ [] atks ⟨by first|rfl|simp,rfl⟩
   · have hst:satQ (thereS s) (closedK I)=true:=by
      obtain ⟨p,hp⟩:=List.exists_mem_of_length_pos (show 0<L.length by omega)
      exact (hlaw _ _ (hLm p hp)).2
     rw [hst] at hsa
     repeat' (first|(refine acl Tryz.func15 ?_;refine acr (hcl) ?_;rintro v' H' ⟨q,hq1,hq2,rfl,rfl⟩;refine apl ?_)|(refine acl Tryz.func16 ?_;refine acr (hgg) ?_;rintro v' H' ⟨a2,c2,rfl,rfl⟩;refine apl ?_)|(refine acl Tryz.func14 ?_;refine acr (hsa q a2 c2 hq1) ?_;rintro v' H' ⟨rfl,rfl⟩;refine apl ?_)|exact xf|refine aw0 ?_|(refine ap2 ?_ ?_<;>try intro h)|refine aw1 ?_|(refine abx ?_;intro bb)|(refine abz ?_;intro bz)|(refine ahv ?_;intro v' hv')|(refine aac ?_;intro ac cc)|refine aw2 ?_|(refine ap4 ?_ ?_<;>try intro h)|apply True.intro)
     ((with_reducible apply fp_ret);exact res_1 rfl rfl)
     exact HR.out _ _ _ [] atks ⟨by first|rfl|simp,rfl⟩
end Go.Proofs.YteknekiclhnkiaaGreatDoor
