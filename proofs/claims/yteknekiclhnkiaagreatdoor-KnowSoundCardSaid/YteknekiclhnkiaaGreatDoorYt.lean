/- bits.TrailingZeros64 at any number; span.ends as numbers of bits: put, either, all: their contracts. -/
import Derived.Test.YteknekiclhnkiaaGreatDoorOt
import Derived.Test.YteknekiclhnkiaaGreatDoorYs
set_option maxHeartbeats 8000000
set_option maxRecDepth 10000
namespace Go.Proofs.YteknekiclhnkiaaGreatDoor
open Go.RowKit Sx
namespace Sx
section
variable {P : Program} {r : Hp} {t : List Value} {d : Option Tmp} {ty : TypeId} {pos : String} {af : Array Edge} {gd : Option (Nat × Bool)}
theorem pu_ixV {T E:TypeId} {x y:Operand} {k:IntKind} {i:Int} {m q:Nat} {vs:List Value} {u:Value} (hT:P.underlying T=some (.array m E)) (hA:aggB P E=some false) (hE:sizeB P E=some 1) (hx:evO t x=some (.agg vs.toArray)) (hy:evO t y=some (.int k i)) (hi:i=(q:Int)) (hq:q<m) (hu:vs[q]?=some u) :
 Pur P r t ⟨d,.index T x y,ty,pos,af,gd⟩ u :=
 ⟨rfl,fun w _=>by
  subst hi
  have h1:(0:Int)<=(q:Int)/\(q:Int)<(m:Int):=by omega
  simp [execOp,Instr.index,part,asIntOf,ev_of hx,ev_of hy,Sem.run_bind,Sem.run_pure,Result.andThen,run_underlying hT,run_sizeOf hE,run_isAgg hA,hq,hu]⟩
end
end Sx
open Sx
theorem wrap_u64 {n:Nat} (h:n<2 ^ 64):IntKind.u64.wrap (n:Int)=n:=by
 simp [IntKind.wrap,IntKind.signed,IntKind.bits];omega
theorem toI64 {a:Nat} (h:a<2 ^ 64):(BitVec.ofInt 64 (a:Int)).toNat=a:=by
 rw [BitVec.toNat_ofInt]
 rw [show ((a:Int) % ((2 ^ 64:Nat):Int))=((a % 2 ^ 64:Nat):Int) by rw [Int.natCast_emod],Nat.mod_eq_of_lt h,Int.toNat_natCast]
theorem bit_and {a b:Nat} (ha:a<2 ^ 64) (hb:b<2 ^ 64):bitI .and .u64 (a:Int) (b:Int)=((a &&& b:Nat):Int):=by
 unfold bitI
 show IntKind.u64.wrap (((BitVec.ofInt 64 (a:Int) &&& BitVec.ofInt 64 (b:Int)).toNat:Nat):Int)=_
 rw [BitVec.toNat_and,toI64 ha,toI64 hb,wrap_u64 (Nat.and_lt_two_pow _ hb)]
theorem bit_or {a b:Nat} (ha:a<2 ^ 64) (hb:b<2 ^ 64):bitI .or .u64 (a:Int) (b:Int)=((a ||| b:Nat):Int):=by
 unfold bitI
 show IntKind.u64.wrap (((BitVec.ofInt 64 (a:Int) ||| BitVec.ofInt 64 (b:Int)).toNat:Nat):Int)=_
 rw [BitVec.toNat_or,toI64 ha,toI64 hb,wrap_u64 (Nat.or_lt_two_pow ha hb)]
def TabF (r:Hp):Prop := ∃ c E fz,r 0=some (.cells c E fz) /\ ∀ k<64,c[k]?=some (.int .u8 (Lib.deBruijn64tab.getD k 0:Nat))
theorem TabF.mono {r r':Hp} (h:TabF r) (hr:sub r r'):TabF r':=by
 obtain ⟨c,E,fz,h1,h2⟩:=h
 exact ⟨c,E,fz,hr _ _ h1,h2⟩
theorem TabF.tab {r:Hp} (h:TabF r):TabR r:=by
 obtain ⟨c,E,fz,h1,h2⟩:=h
 exact ⟨c,E,fz,h1,h2 15 (by omega)⟩
theorem deBx {x:Nat} (h0:x≠0) (h:x<2 ^ 64) : ∃ i:Nat,i<64/\Lib.deBruijn64tab.getD i 0=Lib.ctz 64 x/\(IntKind.u64.wrap (bits BinOp.and IntKind.u64 (x:Int) (IntKind.u64.wrap (-(x:Int)))*285870213051353865) / 288230376151711744)=(i:Int):=by
 obtain ⟨h1,h2⟩:=Lib.lowest_bit 64 x h0 h
 obtain ⟨h3,h4⟩:=Lib.deBruijn64_at _ h2
 refine ⟨_,h3,h4,?_⟩
 have e1:IntKind.u64.wrap (-(x:Int))=((2 ^ 64 - x:Nat):Int):=by
  simp [IntKind.wrap,IntKind.signed,IntKind.bits];omega
 have e2:bits BinOp.and IntKind.u64 (x:Int) ((2 ^ 64 - x:Nat):Int)=((2 ^ Lib.ctz 64 x:Nat):Int):=by
  have h5:=bit_and (a:=x) (b:=2 ^ 64 - x) h (by omega)
  rw [h1] at h5
  exact (show bits BinOp.and IntKind.u64 _ _=bitI _ _ _ _ by unfold bitI;rfl).trans h5
 rw [e1,e2]
 have e3:((2 ^ Lib.ctz 64 x:Nat):Int)*285870213051353865=((2 ^ Lib.ctz 64 x*285870213051353865:Nat):Int):=by generalize 2 ^ Lib.ctz 64 x=p;omega
 rw [e3]
 have e4:IntKind.u64.wrap ((2 ^ Lib.ctz 64 x*285870213051353865:Nat):Int)=((2 ^ Lib.ctz 64 x*285870213051353865 % 18446744073709551616:Nat):Int):=by
  simp [IntKind.wrap,IntKind.signed,IntKind.bits]
 rw [e4]
 rfl
theorem tzx_any (r:Hp) (hT:TabF r) (x:Nat) (h0:x≠0) (h:x<2 ^ 64):Tri Tryz.prog r 59 [.int .u64 x] [] fun w H=>w = .int .i64 (Lib.ctz 64 x:Nat)/\H=[]:=by
 obtain ⟨c,E,fz,h1,h2⟩:=hT
 obtain ⟨i,hi,hg,hd⟩:=deBx h0 h
 have h3:=h2 i hi
 rw [hg] at h3
 have hlt:Lib.ctz 64 x<64:=(Lib.lowest_bit 64 x h0 h).2
 have hbq:¬ (((x:Int) == 0)=true):=fun e=>by have:=eq_of_beq e;omega
 refine Tri.free2 fun R HR=>?_
 refine ae Tryz.func59 Tryz.ntmps59 ?_
 repeat' (first|(exfalso;exact hbq h)|(rw [hd])|((with_reducible apply swo_pur);(with_reducible apply pu_ixA ⟨0,i,none⟩ (T:=146) (sz:=1));exact Tryz.underlying146;exact ty_size;rfl;rfl;omega;rfl;(refine apk ?_))|((with_reducible apply kx_load);exact ty_agg;rfl;exact rd_r h1 h3;(refine apk ?_))|((with_reducible refine swo_kit ?_ ?_);rfl;intro w ds K' hK;gi_big_op;(with_reducible refine hK _ ?_);clear hK K' ds w)|refine aw0 ?_|(refine ap2 ?_ ?_<;>try intro h)|refine aw1 ?_|(refine abx ?_;intro bb)|(refine abz ?_;intro bz)|(refine ahv ?_;intro v' hv')|(refine aac ?_;intro ac cc)|refine aw2 ?_|(refine ap4 ?_ ?_<;>try intro h)|apply True.intro)
 ((with_reducible apply fp_ret);exact res_1 rfl rfl)
 exact HR.out _ _ _ [] Takes.all ⟨rfl,rfl⟩
abbrev encE (e:Nat):List Value:=[.int .u64 (e:Nat),.int .u64 0,.int .u64 0,.int .u64 0]
def encJ (i:Nat):List Value:=[.int .i64 (i:Nat)]
theorem encE_one (e:Nat):(encE e).all one?=true:=rfl
abbrev ebox (b e:Nat):Ch:=pt b (.cells (encE e).toArray 74 (0,0))
abbrev orN (a b:Nat):Nat:=a ||| b
theorem shl_one {i:Nat} (h:i<64):IntKind.u64.wrap (1*2 ^ ((i:Nat):Int).toNat)=((2 ^ i:Nat):Int):=by
 rw [Int.toNat_natCast,Int.one_mul,show ((2:Int) ^ i)=((2 ^ i:Nat):Int) by rw [Int.natCast_pow];rfl]
 exact wrap_u64 (Nat.pow_lt_pow_right (by omega) h)
theorem eput_any (r:Hp) (b e i:Nat) (v:Value) (hv:Els r 1 encJ v [i]) (hi:i<64) (he:e<2 ^ 64):Tri Tryz.prog r 91 [.pointer (some ⟨b,0,none⟩),v] [ebox b e] fun _ H=>H=[ebox b (orN e (2 ^ i))]:=by
 have hq2:((i:Nat):Int) / 64=((0:Nat):Int):=by omega
 have hl1:[i].length=1:=rfl
 have hm2:((i:Nat):Int) % 64=(i:Int):=by omega
 have hsh:=shl_one hi
 have hor:=bit_or (a:=e) (b:=2 ^ i) he (Nat.pow_lt_pow_right (by omega) hi)
 refine Tri.free2 fun R HR=>?_
 refine ae Tryz.func91 Tryz.ntmps91 ?_
 repeat' (first|exact xf|refine aw0 ?_|(refine ap2 ?_ ?_<;>try intro h)|refine aw1 ?_|(refine abx ?_;intro bb)|(refine abz ?_;intro bz)|(refine ahv ?_;intro v' hv')|(refine aac ?_;intro ac cc)|refine aw2 ?_|(refine ap4 ?_ ?_<;>try intro h)|apply True.intro)
 refine sw_loop (fun gm t H' => ∃ (k x:Nat),gm=2 - k/\(k<=1)/\(k=0->x=e)/\(k=1->x=orN e (2 ^ i))/\(∃ G,Takes [ebox b x] H' G)/\Sls t 25 [(0,.pointer (some ⟨b,0,none⟩)),(6,v),(7,.int .i64 1),(8,.int .i64 k)]) _ ⟨0,e,rfl,Nat.zero_le _,(fun _=>rfl),(fun h=>absurd h (by omega)),⟨_,atks⟩,asls⟩ ?_
 rintro gm t H' ⟨k,x,rfl,hk,hx0,hx1,⟨G,hp⟩,hs'⟩
 revert t;refine sls_all ?_;iterate 21 intro uu'
 refine sw_takeG hp ?_;clear hp
 by_cases hlt:k=0
 · subst hlt
   obtain rfl:x=e:=hx0 rfl
   repeat' (first|(rw [show [i].getD 0 default=i from rfl])|(rw [hq2])|(rw [hm2])|(rw [hsh])|(rw [hor])|((with_reducible apply sw_draw (id:=3) 13 [(0,true),(1,true),(2,true),(3,true),(4,true),(6,true),(7,true),(8,true),(10,true),(5,false),(9,true),(11,true),(12,false)] [] []);kernel_rfl;(exact atks);kernel_rfl;intro r' hl')|(first|((with_reducible apply pi_pur);rfl;(exact qwt);(with_reducible apply (pu_ixArr (q:=0) (sz:=1)));exact Tryz.underlying74;exact ty_size;rfl;rfl;(first|rfl|omega);(omega);(refine apk ?_))|((with_reducible apply swo_pur);(with_reducible apply (pu_ixArr (q:=0) (sz:=1)));exact Tryz.underlying74;exact ty_size;rfl;rfl;(first|rfl|omega);(omega);(refine apk ?_)))|exact xf|refine aw0 ?_|(refine ap2 ?_ ?_<;>try intro h)|refine aw1 ?_|(refine abx ?_;intro bb)|(refine abz ?_;intro bz)|(refine ahv ?_;intro v' hv')|(refine aac ?_;intro ac cc)|refine aw2 ?_|(refine ap4 ?_ ?_<;>try intro h)|apply True.intro)
   exact ⟨_,by omega,1,orN x (2 ^ i),rfl,by omega,(fun h=>absurd h (by omega)),(fun _=>rfl),⟨_,atks⟩,asls⟩
 · obtain rfl:k=1:=by omega
   obtain rfl:=hx1 rfl
   repeat' (first|exact xf|refine aw0 ?_|(refine ap2 ?_ ?_<;>try intro h)|refine aw1 ?_|(refine abx ?_;intro bb)|(refine abz ?_;intro bz)|(refine ahv ?_;intro v' hv')|(refine aac ?_;intro ac cc)|refine aw2 ?_|(refine ap4 ?_ ?_<;>try intro h)|apply True.intro)
   ((with_reducible apply fp_end);exact res_0 rfl)
   exact HR.out _ _ _ [_] atks rfl
theorem h00:bitI .or .u64 0 0=0:=by decide +kernel
theorem either_any (r:Hp) (e f:Nat) (he:e<2 ^ 64) (hf:f<2 ^ 64):Tri Tryz.prog r 95 [.agg (encE e).toArray,.agg (encE f).toArray] [] fun w H=>w = .agg (encE (orN e f)).toArray/\H=[]:=by
 have hor:=bit_or (a:=e) (b:=f) he hf
 refine Tri.free2 fun R HR=>?_
 refine ae Tryz.func95 Tryz.ntmps95 ?_
 repeat' (first|((with_reducible apply kx_box (v:= .agg (encE e).toArray));rfl;(exact qcl);intro b2;(refine apk ?_))|((with_reducible apply kx_box (v:= .agg (encE f).toArray));rfl;(exact qcl);intro b3;(refine apk ?_))|((with_reducible apply kx_alloc (E:=74));exact ty_zero;(exact qcl);intro b4;(refine apk ?_))|exact xf|refine aw0 ?_|(refine ap2 ?_ ?_<;>try intro h)|refine aw1 ?_|(refine abx ?_;intro bb)|(refine abz ?_;intro bz)|(refine ahv ?_;intro v' hv')|(refine aac ?_;intro ac cc)|refine aw2 ?_|(refine ap4 ?_ ?_<;>try intro h)|apply True.intro)
 refine sw_loop (fun gm t H' => ∃ (k x:Nat),gm=5 - k/\(k<=4)/\(k=0->x=e)/\(¬ k=0->x=orN e f)/\(∃ G,Takes [ebox b2 x,ebox b3 f,ebox b4 0] H' G)/\Sls t 19 [(2,.pointer (some ⟨b2,0,none⟩)),(3,.pointer (some ⟨b3,0,none⟩)),(4,.pointer (some ⟨b4,0,none⟩)),(6,.int .i64 k)]) _ ⟨0,e,rfl,Nat.zero_le _,(fun _=>rfl),(fun h=>absurd rfl h),⟨_,atks⟩,asls⟩ ?_
 rintro gm t H' ⟨k,x,rfl,hk,hx0,hx1,⟨G,hp⟩,hs'⟩
 revert t;refine sls_all ?_;iterate 15 intro uu'
 refine sw_takeG hp ?_;clear hp
 have hkk:k=0\/k=1\/k=2\/k=3\/k=4:=by omega
 rcases hkk with rfl|rfl|rfl|rfl|rfl
 · obtain rfl:=hx0 rfl
   repeat' (first|(rw [hor])|(rw [h00])|((with_reducible apply sw_draw (id:=4) 7 [(0,true),(1,true),(3,true),(4,true),(5,true),(2,false),(6,true)] [(7,false),(8,false)] [(b3,.cells (encE f).toArray 74 (0,0))]);kernel_rfl;(exact atks);kernel_rfl;intro r' hl')|(first|((with_reducible apply pi_pur);rfl;(exact qwt);(with_reducible apply (pu_ixArr (q:=0) (sz:=1)));exact Tryz.underlying74;exact ty_size;rfl;rfl;(first|rfl|omega);(omega);(refine apk ?_))|((with_reducible apply swo_pur);(with_reducible apply (pu_ixArr (q:=0) (sz:=1)));exact Tryz.underlying74;exact ty_size;rfl;rfl;(first|rfl|omega);(omega);(refine apk ?_)))|exact xf|refine aw0 ?_|(refine ap2 ?_ ?_<;>try intro h)|refine aw1 ?_|(refine abx ?_;intro bb)|(refine abz ?_;intro bz)|(refine ahv ?_;intro v' hv')|(refine aac ?_;intro ac cc)|refine aw2 ?_|(refine ap4 ?_ ?_<;>try intro h)|apply True.intro)
   exact ⟨_,by omega,1,orN x f,rfl,by omega,(fun h=>absurd h (by omega)),(fun _=>rfl),⟨_,atks⟩,asls⟩
 · obtain rfl:=hx1 (by omega)
   repeat' (first|(rw [hor])|(rw [h00])|((with_reducible apply sw_draw (id:=4) 7 [(0,true),(1,true),(3,true),(4,true),(5,true),(2,false),(6,true)] [(7,false),(8,false)] [(b3,.cells (encE f).toArray 74 (0,0))]);kernel_rfl;(exact atks);kernel_rfl;intro r' hl')|(first|((with_reducible apply pi_pur);rfl;(exact qwt);(with_reducible apply (pu_ixArr (q:=1) (sz:=1)));exact Tryz.underlying74;exact ty_size;rfl;rfl;(first|rfl|omega);(omega);(refine apk ?_))|((with_reducible apply swo_pur);(with_reducible apply (pu_ixArr (q:=1) (sz:=1)));exact Tryz.underlying74;exact ty_size;rfl;rfl;(first|rfl|omega);(omega);(refine apk ?_)))|exact xf|refine aw0 ?_|(refine ap2 ?_ ?_<;>try intro h)|refine aw1 ?_|(refine abx ?_;intro bb)|(refine abz ?_;intro bz)|(refine ahv ?_;intro v' hv')|(refine aac ?_;intro ac cc)|refine aw2 ?_|(refine ap4 ?_ ?_<;>try intro h)|apply True.intro)
   exact ⟨_,by omega,2,orN e f,rfl,by omega,(fun h=>absurd h (by omega)),(fun _=>rfl),⟨_,atks⟩,asls⟩
 · obtain rfl:=hx1 (by omega)
   repeat' (first|(rw [hor])|(rw [h00])|((with_reducible apply sw_draw (id:=4) 7 [(0,true),(1,true),(3,true),(4,true),(5,true),(2,false),(6,true)] [(7,false),(8,false)] [(b3,.cells (encE f).toArray 74 (0,0))]);kernel_rfl;(exact atks);kernel_rfl;intro r' hl')|(first|((with_reducible apply pi_pur);rfl;(exact qwt);(with_reducible apply (pu_ixArr (q:=2) (sz:=1)));exact Tryz.underlying74;exact ty_size;rfl;rfl;(first|rfl|omega);(omega);(refine apk ?_))|((with_reducible apply swo_pur);(with_reducible apply (pu_ixArr (q:=2) (sz:=1)));exact Tryz.underlying74;exact ty_size;rfl;rfl;(first|rfl|omega);(omega);(refine apk ?_)))|exact xf|refine aw0 ?_|(refine ap2 ?_ ?_<;>try intro h)|refine aw1 ?_|(refine abx ?_;intro bb)|(refine abz ?_;intro bz)|(refine ahv ?_;intro v' hv')|(refine aac ?_;intro ac cc)|refine aw2 ?_|(refine ap4 ?_ ?_<;>try intro h)|apply True.intro)
   exact ⟨_,by omega,3,orN e f,rfl,by omega,(fun h=>absurd h (by omega)),(fun _=>rfl),⟨_,atks⟩,asls⟩
 · obtain rfl:=hx1 (by omega)
   repeat' (first|(rw [hor])|(rw [h00])|((with_reducible apply sw_draw (id:=4) 7 [(0,true),(1,true),(3,true),(4,true),(5,true),(2,false),(6,true)] [(7,false),(8,false)] [(b3,.cells (encE f).toArray 74 (0,0))]);kernel_rfl;(exact atks);kernel_rfl;intro r' hl')|(first|((with_reducible apply pi_pur);rfl;(exact qwt);(with_reducible apply (pu_ixArr (q:=3) (sz:=1)));exact Tryz.underlying74;exact ty_size;rfl;rfl;(first|rfl|omega);(omega);(refine apk ?_))|((with_reducible apply swo_pur);(with_reducible apply (pu_ixArr (q:=3) (sz:=1)));exact Tryz.underlying74;exact ty_size;rfl;rfl;(first|rfl|omega);(omega);(refine apk ?_)))|exact xf|refine aw0 ?_|(refine ap2 ?_ ?_<;>try intro h)|refine aw1 ?_|(refine abx ?_;intro bb)|(refine abz ?_;intro bz)|(refine ahv ?_;intro v' hv')|(refine aac ?_;intro ac cc)|refine aw2 ?_|(refine ap4 ?_ ?_<;>try intro h)|apply True.intro)
   exact ⟨_,by omega,4,orN e f,rfl,by omega,(fun h=>absurd h (by omega)),(fun _=>rfl),⟨_,atks⟩,asls⟩
 · obtain rfl:=hx1 (by omega)
   repeat' (first|exact xf|refine aw0 ?_|(refine ap2 ?_ ?_<;>try intro h)|refine aw1 ?_|(refine abx ?_;intro bb)|(refine abz ?_;intro bz)|(refine ahv ?_;intro v' hv')|(refine aac ?_;intro ac cc)|refine aw2 ?_|(refine ap4 ?_ ?_<;>try intro h)|apply True.intro)
   ((with_reducible apply fp_ret);exact res_W rfl rfl atk ty_agg ty_size rfl)
   exact HR.out _ _ _ [] atks ⟨rfl,rfl⟩
theorem eall_any (r:Hp) (e:Nat):Tri Tryz.prog r 33 [.agg (encE e).toArray] [] fun w H => ∃ B,w = .func (.func 58) #[] #[.pointer (some ⟨B,0,none⟩)]/\H=[ebox B e]:=by
 refine Tri.free2 fun R HR=>?_
 refine ae Tryz.func33 Tryz.ntmps33 ?_
 repeat' (first|((with_reducible apply kx_box);rfl;(exact qcl);intro b1;(refine apk ?_))|exact xf|refine aw0 ?_|(refine ap2 ?_ ?_<;>try intro h)|refine aw1 ?_|(refine abx ?_;intro bb)|(refine abz ?_;intro bz)|(refine ahv ?_;intro v' hv')|(refine aac ?_;intro ac cc)|refine aw2 ?_|(refine ap4 ?_ ?_<;>try intro h)|apply True.intro)
 ((with_reducible apply fp_ret);exact res_1 rfl rfl)
 exact HR.out _ _ _ [_] atks ⟨b1,rfl,rfl⟩
theorem drop_split {α:Type} {X l:List α} {a:α} {m:Nat} (h:X.drop m=a::l) : ∃ hm:m<X.length,X[m]=a/\X.drop (m+1)=l:=by
 have hm:m<X.length:=by
  have:=congrArg List.length h
  rw [List.length_drop,List.length_cons] at this
  omega
 rw [List.drop_eq_getElem_cons hm] at h
 injection h with h1 h2
 exact ⟨hm,h1,h2⟩
theorem eall_seq (r:Hp) (hT:TabF r) (B e:Nat) (he:e<2 ^ 64):Seq Tryz.prog r 58 [.pointer (some ⟨B,0,none⟩)] encJ (bitsX e) [ebox B e] []:=by
 intro k J Jx hy
 obtain ⟨X,hX⟩ : ∃ X,bitsX e=X:=⟨_,rfl⟩
 rw [hX] at hy ⊢
 refine Tri.free2 fun R HR=>?_
 refine ae Tryz.func58 Tryz.ntmps58 ?_
 repeat' (first|exact xf|refine aw0 ?_|(refine ap2 ?_ ?_<;>try intro h)|refine aw1 ?_|(refine abx ?_;intro bb)|(refine abz ?_;intro bz)|(refine ahv ?_;intro v' hv')|(refine aac ?_;intro ac cc)|refine aw2 ?_|(refine ap4 ?_ ?_<;>try intro h)|apply True.intro)
 refine sw_loop (fun gm t H' => ∃ (q m:Nat),gm=5 - q/\(q<=4)/\(q=0->m=0)/\(¬ q=0->m=X.length)/\(∃ G,Takes [J m] H' G)/\Sls t 25 [(0,.func (.yield k) #[] #[]),(5,.agg (encE e).toArray),(6,.int .i64 q)]) _ ⟨0,0,rfl,Nat.zero_le _,(fun _=>rfl),(fun h=>absurd rfl h),⟨_,atks⟩,asls⟩ ?_
 rintro gm t H' ⟨q,m,rfl,hq,hq0,hq1,⟨G,hp⟩,hs'⟩
 revert t;refine sls_all ?_;iterate 22 intro uu'
 refine sw_takeG hp ?_;clear hp
 have hkk:q=0\/q=1\/q=2\/q=3\/q=4:=by omega
 rcases hkk with rfl|rfl|rfl|rfl|rfl
 · obtain rfl:=hq0 rfl
   repeat' (first|((with_reducible apply swo_pur);(with_reducible apply (pu_ixV (q:=0) (E:=23)));exact Tryz.underlying74;exact ty_agg;exact ty_size;rfl;rfl;rfl;(omega);rfl;(refine apk ?_))|exact xf|refine aw0 ?_|(refine ap2 ?_ ?_<;>try intro h)|refine aw1 ?_|(refine abx ?_;intro bb)|(refine abz ?_;intro bz)|(refine ahv ?_;intro v' hv')|(refine aac ?_;intro ac cc)|refine aw2 ?_|(refine ap4 ?_ ?_<;>try intro h)|apply True.intro)
   refine sw_loop (fun gm t H' => ∃ (x m:Nat),gm=x+1/\(x<2 ^ 64)/\(m<=X.length)/\(X.drop m=bitsX x)/\(∃ G,Takes [J m] H' G)/\Sls t 25 [(0,.func (.yield k) #[] #[]),(3,.int .i64 (0:Nat)),(4,.int .u64 x),(5,.agg (encE e).toArray),(6,.int .i64 (0:Nat))]) _ ⟨e,0,rfl,he,Nat.zero_le _,hX.symm,⟨_,atks⟩,asls⟩ ?_
   rintro gm t H' ⟨x,m,rfl,hx,hm,hd,⟨G,hp⟩,hs'⟩
   revert t;refine sls_all ?_;iterate 20 intro uu'
   refine sw_takeG hp ?_;clear hp
   by_cases h0:x=0
   · subst h0
     rw [bitsX_zero] at hd
     have hml:m=X.length:=by
      have:=congrArg List.length hd
      rw [List.length_drop,List.length_nil] at this
      omega
     subst hml
     repeat' (first|exact xf|refine aw0 ?_|(refine ap2 ?_ ?_<;>try intro h)|refine aw1 ?_|(refine abx ?_;intro bb)|(refine abz ?_;intro bz)|(refine ahv ?_;intro v' hv')|(refine aac ?_;intro ac cc)|refine aw2 ?_|(refine ap4 ?_ ?_<;>try intro h)|apply True.intro)
     exact ⟨_,by omega,1,X.length,rfl,by omega,(fun h=>absurd h (by omega)),(fun _=>rfl),⟨_,atks⟩,asls⟩
   · rw [bitsX_cons h0] at hd
     obtain ⟨hlt,hXm,hd2⟩:=drop_split hd
     have hyp:=hy m hlt
     rw [hXm,show encJ (Lib.ctz 64 x)=[.int .i64 (Lib.ctz 64 x:Nat)] from rfl] at hyp
     have hc:=(Lib.lowest_bit 64 x h0 hx).2
     have htz:=tzx_any r hT x h0 hx
     have h64:(64*((0:Nat):Int)+((Lib.ctz 64 x:Nat):Int))=((Lib.ctz 64 x:Nat):Int):=by omega
     have hdec:((x:Int) - 1)=((x - 1:Nat):Int):=by omega
     have hand:=bit_and (a:=x) (b:=x - 1) hx (by omega)
     have hal:=and_dec h0
     repeat' (first|(rw [h64])|(rw [hdec])|(rw [hand])|(refine acl Tryz.func59 ?_;refine acr (htz) ?_;rintro v' H' ⟨rfl,rfl⟩;refine apl ?_)|((with_reducible apply kx_yield);rfl;exact (hyp);rfl;(exact atk);all_goals (refine apk ?_))|exact xf|refine aw0 ?_|(refine ap2 ?_ ?_<;>try intro h)|refine aw1 ?_|(refine abx ?_;intro bb)|(refine abz ?_;intro bz)|(refine ahv ?_;intro v' hv')|(refine aac ?_;intro ac cc)|refine aw2 ?_|(refine ap4 ?_ ?_<;>try intro h)|apply True.intro)
     · exact ⟨_,by omega,x &&& (x - 1),m+1,rfl,by omega,by omega,hd2,⟨_,atks⟩,asls⟩
     · ((with_reducible apply fp_end);exact res_0 rfl)
       exact HR.out _ _ _ [Jx (m+1)] atks (.inr ⟨m,[],hlt,rfl⟩)
 · obtain rfl:=hq1 (by omega)
   repeat' (first|((with_reducible apply swo_pur);(with_reducible apply (pu_ixV (q:=1) (E:=23)));exact Tryz.underlying74;exact ty_agg;exact ty_size;rfl;rfl;rfl;(omega);rfl;(refine apk ?_))|exact xf|refine aw0 ?_|(refine ap2 ?_ ?_<;>try intro h)|refine aw1 ?_|(refine abx ?_;intro bb)|(refine abz ?_;intro bz)|(refine ahv ?_;intro v' hv')|(refine aac ?_;intro ac cc)|refine aw2 ?_|(refine ap4 ?_ ?_<;>try intro h)|apply True.intro)
   refine sw_loop (fun gm t H'=>gm=1/\(∃ G,Takes [J X.length] H' G)/\Sls t 25 [(0,.func (.yield k) #[] #[]),(3,.int .i64 (1:Nat)),(4,.int .u64 0),(5,.agg (encE e).toArray),(6,.int .i64 (1:Nat))]) _ ⟨rfl,⟨_,atks⟩,asls⟩ ?_
   rintro gm t H' ⟨rfl,⟨G,hp⟩,hs'⟩
   revert t;refine sls_all ?_;iterate 20 intro uu'
   refine sw_takeG hp ?_;clear hp
   repeat' (first|exact xf|refine aw0 ?_|(refine ap2 ?_ ?_<;>try intro h)|refine aw1 ?_|(refine abx ?_;intro bb)|(refine abz ?_;intro bz)|(refine ahv ?_;intro v' hv')|(refine aac ?_;intro ac cc)|refine aw2 ?_|(refine ap4 ?_ ?_<;>try intro h)|apply True.intro)
   exact ⟨_,by omega,2,X.length,rfl,by omega,(fun h=>absurd h (by omega)),(fun _=>rfl),⟨_,atks⟩,asls⟩
 · obtain rfl:=hq1 (by omega)
   repeat' (first|((with_reducible apply swo_pur);(with_reducible apply (pu_ixV (q:=2) (E:=23)));exact Tryz.underlying74;exact ty_agg;exact ty_size;rfl;rfl;rfl;(omega);rfl;(refine apk ?_))|exact xf|refine aw0 ?_|(refine ap2 ?_ ?_<;>try intro h)|refine aw1 ?_|(refine abx ?_;intro bb)|(refine abz ?_;intro bz)|(refine ahv ?_;intro v' hv')|(refine aac ?_;intro ac cc)|refine aw2 ?_|(refine ap4 ?_ ?_<;>try intro h)|apply True.intro)
   refine sw_loop (fun gm t H'=>gm=1/\(∃ G,Takes [J X.length] H' G)/\Sls t 25 [(0,.func (.yield k) #[] #[]),(3,.int .i64 (2:Nat)),(4,.int .u64 0),(5,.agg (encE e).toArray),(6,.int .i64 (2:Nat))]) _ ⟨rfl,⟨_,atks⟩,asls⟩ ?_
   rintro gm t H' ⟨rfl,⟨G,hp⟩,hs'⟩
   revert t;refine sls_all ?_;iterate 20 intro uu'
   refine sw_takeG hp ?_;clear hp
   repeat' (first|exact xf|refine aw0 ?_|(refine ap2 ?_ ?_<;>try intro h)|refine aw1 ?_|(refine abx ?_;intro bb)|(refine abz ?_;intro bz)|(refine ahv ?_;intro v' hv')|(refine aac ?_;intro ac cc)|refine aw2 ?_|(refine ap4 ?_ ?_<;>try intro h)|apply True.intro)
   exact ⟨_,by omega,3,X.length,rfl,by omega,(fun h=>absurd h (by omega)),(fun _=>rfl),⟨_,atks⟩,asls⟩
 · obtain rfl:=hq1 (by omega)
   repeat' (first|((with_reducible apply swo_pur);(with_reducible apply (pu_ixV (q:=3) (E:=23)));exact Tryz.underlying74;exact ty_agg;exact ty_size;rfl;rfl;rfl;(omega);rfl;(refine apk ?_))|exact xf|refine aw0 ?_|(refine ap2 ?_ ?_<;>try intro h)|refine aw1 ?_|(refine abx ?_;intro bb)|(refine abz ?_;intro bz)|(refine ahv ?_;intro v' hv')|(refine aac ?_;intro ac cc)|refine aw2 ?_|(refine ap4 ?_ ?_<;>try intro h)|apply True.intro)
   refine sw_loop (fun gm t H'=>gm=1/\(∃ G,Takes [J X.length] H' G)/\Sls t 25 [(0,.func (.yield k) #[] #[]),(3,.int .i64 (3:Nat)),(4,.int .u64 0),(5,.agg (encE e).toArray),(6,.int .i64 (3:Nat))]) _ ⟨rfl,⟨_,atks⟩,asls⟩ ?_
   rintro gm t H' ⟨rfl,⟨G,hp⟩,hs'⟩
   revert t;refine sls_all ?_;iterate 20 intro uu'
   refine sw_takeG hp ?_;clear hp
   repeat' (first|exact xf|refine aw0 ?_|(refine ap2 ?_ ?_<;>try intro h)|refine aw1 ?_|(refine abx ?_;intro bb)|(refine abz ?_;intro bz)|(refine ahv ?_;intro v' hv')|(refine aac ?_;intro ac cc)|refine aw2 ?_|(refine ap4 ?_ ?_<;>try intro h)|apply True.intro)
   exact ⟨_,by omega,4,X.length,rfl,by omega,(fun h=>absurd h (by omega)),(fun _=>rfl),⟨_,atks⟩,asls⟩
 · obtain rfl:=hq1 (by omega)
   repeat' (first|exact xf|refine aw0 ?_|(refine ap2 ?_ ?_<;>try intro h)|refine aw1 ?_|(refine abx ?_;intro bb)|(refine abz ?_;intro bz)|(refine ahv ?_;intro v' hv')|(refine aac ?_;intro ac cc)|refine aw2 ?_|(refine ap4 ?_ ?_<;>try intro h)|apply True.intro)
   ((with_reducible apply fp_end);exact res_0 rfl)
   exact HR.out _ _ _ [J X.length] atks (.inl rfl)
end Go.Proofs.YteknekiclhnkiaaGreatDoor
