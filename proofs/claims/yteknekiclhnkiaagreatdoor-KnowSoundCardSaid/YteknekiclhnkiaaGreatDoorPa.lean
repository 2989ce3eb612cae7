/- mudlarklaw17.awake: its contract. -/
import Derived.Test.YteknekiclhnkiaaGreatDoorOx
set_option maxHeartbeats 4000000
set_option maxRecDepth 10000
namespace Go.Proofs.YteknekiclhnkiaaGreatDoor
open Go.RowKit Go.Maps Sx
def oneS (b:UInt8) (q:Nat):Nat:=if b.toNat / 64=q then 2 ^ (b.toNat % 64) else 0
def oneV (b:UInt8):NoV:= .mk 3 (oneS b 0) (oneS b 1) (oneS b 2) (oneS b 3) (.slice none 0 0) [] 0 0 false 0
theorem oneV_key (b:UInt8):(oneV b).key=oneN b:=by
 unfold oneV oneN
 rw [nkey_mk];rfl
theorem oneS_lt (b:UInt8) (q:Nat):oneS b q<2 ^ 64:=by
 unfold oneS
 split
 · exact Nat.pow_lt_pow_right (by omega) (Nat.mod_lt _ (by omega))
 · omega
theorem els_nilN (r:Hp):Els r 10 encN (.slice none 0 0) ([]:List NoV):=⟨encN_len,rfl,Nat.zero_le _,.inl ⟨⟨none,rfl⟩,rfl⟩⟩
theorem oneV_read (r:Hp) (b:UInt8):NoR r (oneV b):=by
 unfold oneV
 simp only [NoR,NoL]
 exact ⟨els_nilN r,trivial,by unfold KindR;omega,oneS_lt _ _,oneS_lt _ _,oneS_lt _ _,oneS_lt _ _,rfl⟩
theorem shl_ok (b:UInt8):IntKind.u64.wrap (1*2 ^ (((b.toNat:Nat):Int) % 64).toNat)=((2 ^ (b.toNat % 64):Nat):Int):=by
 have e:(((b.toNat:Nat):Int) % 64).toNat=b.toNat % 64:=by omega
 have h:2 ^ (b.toNat % 64)<2 ^ 64:=Nat.pow_lt_pow_right (by omega) (Nat.mod_lt _ (by omega))
 rw [e,Int.one_mul]
 have e2:((2:Int) ^ (b.toNat % 64))=((2 ^ (b.toNat % 64):Nat):Int):=by simp
 rw [e2]
 obtain ⟨n,hn⟩ : ∃ n,2 ^ (b.toNat % 64)=n:=⟨_,rfl⟩
 rw [hn] at h ⊢
 simp only [IntKind.wrap,IntKind.signed,IntKind.bits]
 simp
 omega
theorem one_any (r:Hp) (b:UInt8):Tri Tryz.prog r 17 [.int .u8 b.toNat] [] fun w H=>w = .agg (encN (oneV b)).toArray/\H=[]:=by
 have hb:=b.toNat_lt
 have hsh:=shl_ok b
 have hen:encN (oneV b)=[.int .i64 3,.int .u64 (oneS b 0),.int .u64 (oneS b 1),.int .u64 (oneS b 2),.int .u64 (oneS b 3),.slice none 0 0,.int .i64 0,.int .i64 0,.bool false,.int .i64 0]:=rfl
 rw [hen]
 refine Tri.free2 fun R HR=>?_
 have hq:b.toNat / 64=0\/b.toNat / 64=1\/b.toNat / 64=2\/b.toNat / 64=3:=by omega
 rcases hq with hq|hq|hq|hq
 · simp only [oneS,hq] at HR
   refine ae Tryz.func17 Tryz.ntmps17 ?_
   repeat' (first|(rw [hsh])|((with_reducible apply kx_alloc (E:=28));exact ty_zero;(exact qcl);intro b2;(refine apk ?_))|((with_reducible apply kx_alloc (E:=25));exact ty_zero;(exact qcl);intro b3;(refine apk ?_))|((with_reducible apply swo_pur);(with_reducible apply pu_ixArr (q:=0));exact Tryz.underlying25;exact ty_size;rfl;rfl;omega;(omega);(refine apk ?_))|exact xf|refine aw0 ?_|(refine ap2 ?_ ?_<;>try intro h)|refine aw1 ?_|(refine abx ?_;intro bb)|(refine abz ?_;intro bz)|(refine ahv ?_;intro v' hv')|(refine aac ?_;intro ac cc)|refine aw2 ?_|(refine ap4 ?_ ?_<;>try intro h)|apply True.intro)
   ((with_reducible apply fp_ret);exact res_W rfl rfl atk ty_agg ty_size rfl)
   exact HR.out _ _ _ [] atks ⟨rfl,rfl⟩
 · simp only [oneS,hq] at HR
   refine ae Tryz.func17 Tryz.ntmps17 ?_
   repeat' (first|(rw [hsh])|((with_reducible apply kx_alloc (E:=28));exact ty_zero;(exact qcl);intro b2;(refine apk ?_))|((with_reducible apply kx_alloc (E:=25));exact ty_zero;(exact qcl);intro b3;(refine apk ?_))|((with_reducible apply swo_pur);(with_reducible apply pu_ixArr (q:=1));exact Tryz.underlying25;exact ty_size;rfl;rfl;omega;(omega);(refine apk ?_))|exact xf|refine aw0 ?_|(refine ap2 ?_ ?_<;>try intro h)|refine aw1 ?_|(refine abx ?_;intro bb)|(refine abz ?_;intro bz)|(refine ahv ?_;intro v' hv')|(refine aac ?_;intro ac cc)|refine aw2 ?_|(refine ap4 ?_ ?_<;>try intro h)|apply True.intro)
   ((with_reducible apply fp_ret);exact res_W rfl rfl atk ty_agg ty_size rfl)
   exact HR.out _ _ _ [] atks ⟨rfl,rfl⟩
 · simp only [oneS,hq] at HR
   refine ae Tryz.func17 Tryz.ntmps17 ?_
   repeat' (first|(rw [hsh])|((with_reducible apply kx_alloc (E:=28));exact ty_zero;(exact qcl);intro b2;(refine apk ?_))|((with_reducible apply kx_alloc (E:=25));exact ty_zero;(exact qcl);intro b3;(refine apk ?_))|((with_reducible apply swo_pur);(with_reducible apply pu_ixArr (q:=2));exact Tryz.underlying25;exact ty_size;rfl;rfl;omega;(omega);(refine apk ?_))|exact xf|refine aw0 ?_|(refine ap2 ?_ ?_<;>try intro h)|refine aw1 ?_|(refine abx ?_;intro bb)|(refine abz ?_;intro bz)|(refine ahv ?_;intro v' hv')|(refine aac ?_;intro ac cc)|refine aw2 ?_|(refine ap4 ?_ ?_<;>try intro h)|apply True.intro)
   ((with_reducible apply fp_ret);exact res_W rfl rfl atk ty_agg ty_size rfl)
   exact HR.out _ _ _ [] atks ⟨rfl,rfl⟩
 · simp only [oneS,hq] at HR
   refine ae Tryz.func17 Tryz.ntmps17 ?_
   repeat' (first|(rw [hsh])|((with_reducible apply kx_alloc (E:=28));exact ty_zero;(exact qcl);intro b2;(refine apk ?_))|((with_reducible apply kx_alloc (E:=25));exact ty_zero;(exact qcl);intro b3;(refine apk ?_))|((with_reducible apply swo_pur);(with_reducible apply pu_ixArr (q:=3));exact Tryz.underlying25;exact ty_size;rfl;rfl;omega;(omega);(refine apk ?_))|exact xf|refine aw0 ?_|(refine ap2 ?_ ?_<;>try intro h)|refine aw1 ?_|(refine abx ?_;intro bb)|(refine abz ?_;intro bz)|(refine ahv ?_;intro v' hv')|(refine aac ?_;intro ac cc)|refine aw2 ?_|(refine ap4 ?_ ?_<;>try intro h)|apply True.intro)
   ((with_reducible apply fp_ret);exact res_W rfl rfl atk ty_agg ty_size rfl)
   exact HR.out _ _ _ [] atks ⟨rfl,rfl⟩
theorem of17_any (r:Hp) (k:Int) (a:Option Addr) (n c:Nat):Tri Tryz.prog r 18 [.int .i64 k,.slice a n c] [] fun w H=>w = .agg [.int .i64 k,.int .u64 0,.int .u64 0,.int .u64 0,.int .u64 0,.slice a n c,.int .i64 0,.int .i64 0,.bool false,.int .i64 0].toArray/\H=[]:=by
 refine Tri.free2 fun R HR=>?_
 refine ae Tryz.func18 Tryz.ntmps18 ?_
 repeat' (first|((with_reducible apply kx_alloc (E:=28));exact ty_zero;(exact qcl);intro b2;(refine apk ?_))|exact xf|refine aw0 ?_|(refine ap2 ?_ ?_<;>try intro h)|refine aw1 ?_|(refine abx ?_;intro bb)|(refine abz ?_;intro bz)|(refine ahv ?_;intro v' hv')|(refine aac ?_;intro ac cc)|refine aw2 ?_|(refine ap4 ?_ ?_<;>try intro h)|apply True.intro)
 ((with_reducible apply fp_ret);exact res_W rfl rfl atk ty_agg ty_size rfl)
 exact HR.out _ _ _ [] atks ⟨rfl,rfl⟩
def textV (a:Option Addr) (c:Nat) (s:Tx):NoV:= .mk 4 0 0 0 0 (.slice a s.length c) (s.map oneV) 0 0 false 0
theorem textV_key (a:Option Addr) (c:Nat) (s:Tx):(textV a c s).key=textN s:=by
 unfold textV textN
 rw [nkey_mk,List.map_map,show NoV.key ∘ oneV=oneN from funext oneV_key]
abbrev KidC (a:Option Addr) (c:Nat) (s:Tx):Ch:=RowC 28 10 (.slice a s.length c) s.length ((s.map oneV).flatMap encN)
theorem kid_snoc {a:Option Addr} {c:Nat} {Y:Tx} {x:UInt8}:KidC a c (Y++[x])=RowC 28 10 (.slice a (Y.length+1) c) (Y.length+1) ((Y.map oneV).flatMap encN++[.int .i64 3,.int .u64 (oneS x 0),.int .u64 (oneS x 1),.int .u64 (oneS x 2),.int .u64 (oneS x 3),.slice none 0 0,.int .i64 0,.int .i64 0,.bool false,.int .i64 0]):=by
 unfold KidC
 rw [List.length_append,List.length_singleton,List.map_append,List.flatMap_append];rfl
theorem textV_read {r g:Hp} {a:Option Addr} {c:Nat} {s:Tx} (h:KidC a c s g) (hs:sub g r):NoR r (textV a c s):=by
 unfold textV
 simp only [NoR,noL_iff]
 refine ⟨⟨encN_len,by rw [List.length_map];exact h.sl hs⟩,fun x hx=>?_,by unfold KindR;omega,by omega,by omega,by omega,by omega,rfl⟩
 obtain ⟨b,_,rfl⟩:=List.mem_map.1 hx
 exact oneV_read r b
theorem text17_any (r:Hp) (s:Tx) (hs:s.length<=1000000):Tri Tryz.prog r 20 [.string (bs s)] [] fun w H => ∃ a c,w = .agg [.int .i64 4,.int .u64 0,.int .u64 0,.int .u64 0,.int .u64 0,.slice a s.length c,.int .i64 0,.int .i64 0,.bool false,.int .i64 0].toArray/\H=[KidC a c s]:=by
 have hof:=of17_any r 4 none 0 0
 have hone:=fun r' b=>one_any r' b
 refine Tri.free2 fun R HR=>?_
 refine ae Tryz.func20 Tryz.ntmps20 ?_
 repeat' (first|((with_reducible apply kx_alloc (E:=28));exact ty_zero;(exact qcl);intro b2;(refine apk ?_))|exact xf|refine aw0 ?_|(refine ap2 ?_ ?_<;>try intro h)|refine aw1 ?_|(refine abx ?_;intro bb)|(refine abz ?_;intro bz)|(refine ahv ?_;intro v' hv')|(refine aac ?_;intro ac cc)|refine aw2 ?_|(refine ap4 ?_ ?_<;>try intro h)|apply True.intro)
 repeat' (first|(refine acl Tryz.func18 ?_;refine acr (hof) ?_;rintro v' H' ⟨rfl,rfl⟩;refine apl ?_)|((with_reducible apply kx_alloc (E:=28));exact ty_zero;(exact qcl);intro b3;(refine apk ?_))|exact xf|refine aw0 ?_|(refine ap2 ?_ ?_<;>try intro h)|refine aw1 ?_|(refine abx ?_;intro bb)|(refine abz ?_;intro bz)|(refine ahv ?_;intro v' hv')|(refine aac ?_;intro ac cc)|refine aw2 ?_|(refine ap4 ?_ ?_<;>try intro h)|apply True.intro)
 refine sw_put (A:=KidC none 0 []) (RowC.nil _ _) ?_
 refine sw_loop (fun gm t H' => ∃ (k:Nat) (a:Option Addr) (c:Nat),gm=s.length+1 - k/\(k<=s.length)/\(∃ G,Takes [pt b2 (.cells [.int .i64 0,.int .u64 0,.int .u64 0,.int .u64 0,.int .u64 0,.slice none 0 0,.int .i64 0,.int .i64 0,.bool false,.int .i64 0].toArray 28 (0,0)),pt b3 (.cells [.int .i64 4,.int .u64 0,.int .u64 0,.int .u64 0,.int .u64 0,.slice a (s.take k).length c,.int .i64 0,.int .i64 0,.bool false,.int .i64 0].toArray 28 (0,0)),KidC a c (s.take k)] H' G)/\Sls t 22 [(0,.string (bs s)),(2,.pointer (some ⟨b2,0,none⟩)),(3,.pointer (some ⟨b3,0,none⟩)),(4,.int .i64 k)]) _ ⟨0,none,0,rfl,Nat.zero_le _,⟨_,atks⟩,asls⟩ ?_
 rintro gm t H' ⟨k,a,c,rfl,hk,⟨G,hp⟩,hs'⟩
 revert t;refine sls_all ?_;iterate 18 intro uu'
 refine sw_takeG hp ?_;clear hp
 by_cases hlt:k<s.length
 · have htk:s.take (k+1)=s.take k++[s.getD k 0]:=by rw [take_getD (d:=0) hlt]
   obtain ⟨x,hx⟩ : ∃ x,s.getD k 0=x:=⟨_,rfl⟩
   have hox:=fun r'=>hone r' x
   have hse:encN (oneV x)=[.int .i64 3,.int .u64 (oneS x 0),.int .u64 (oneS x 1),.int .u64 (oneS x 2),.int .u64 (oneS x 3),.slice none 0 0,.int .i64 0,.int .i64 0,.bool false,.int .i64 0]:=rfl
   rw [hse] at hox
   rw [hx] at htk
   have htl:(s.take k).length<=s.length:=by rw [List.length_take];omega
   obtain ⟨Y,hY⟩ : ∃ Y,s.take k=Y:=⟨_,rfl⟩
   rw [hY] at htk htl
   rw [hY]
   repeat' (first|(rw [hx])|((with_reducible apply sw_draw (id:=5) 8 [(0,true),(1,true),(2,true),(3,true),(4,true),(5,false),(6,false),(7,false)] [(8,false),(9,false)] [(b3,.cells [.int .i64 4,.int .u64 0,.int .u64 0,.int .u64 0,.int .u64 0,.slice a Y.length c,.int .i64 0,.int .i64 0,.bool false,.int .i64 0].toArray 28 (0,0))]);kernel_rfl;(exact atks);kernel_rfl;intro r' hl')|(first|((with_reducible apply kx_bs1);exact ty_el;exact ty_inf;rfl;rfl;rfl;intro bz;(refine apk ?_))|((with_reducible apply kx_bsN);exact ty_el;exact ty_inf;rfl;rfl;rfl;intro bz;(refine apk ?_)))|(first|((with_reducible apply kx_append1);exact ty_el;exact ty_inf;rfl;rfl;rfl;(exact atk);(exact atk);rfl;omega;intro a' c';(refine apk ?_))|((with_reducible apply kx_appendN);exact ty_el;exact ty_inf;rfl;rfl;rfl;rfl;(exact atk);(exact atk);rfl;rfl;omega;intro a' c';(refine apk ?_)))|(refine acl Tryz.func17 ?_;refine acr (hox _) ?_;rintro v' H' ⟨rfl,rfl⟩;refine apl ?_)|exact xf|refine aw0 ?_|(refine ap2 ?_ ?_<;>try intro h)|refine aw1 ?_|(refine abx ?_;intro bb)|(refine abz ?_;intro bz)|(refine ahv ?_;intro v' hv')|(refine aac ?_;intro ac cc)|refine aw2 ?_|(refine ap4 ?_ ?_<;>try intro h)|apply True.intro)
   have hln2:(s.take (k+1)).length=Y.length+1:=by rw [htk,List.length_append];rfl
   exact ⟨_,by omega,k+1,a',c',rfl,by omega,⟨_,by rw [htk,kid_snoc,List.length_append,List.length_singleton];exact atks⟩,asls⟩
 · obtain rfl:k=s.length:=by omega
   rw [List.take_length]
   repeat' (first|exact xf|refine aw0 ?_|(refine ap2 ?_ ?_<;>try intro h)|refine aw1 ?_|(refine abx ?_;intro bb)|(refine abz ?_;intro bz)|(refine ahv ?_;intro v' hv')|(refine aac ?_;intro ac cc)|refine aw2 ?_|(refine ap4 ?_ ?_<;>try intro h)|apply True.intro)
   ((with_reducible apply fp_ret);exact res_W rfl rfl atk ty_agg ty_size rfl)
   exact HR.out _ _ _ [KidC a c s] atks ⟨a,c,rfl,rfl⟩
theorem star_any (r:Hp) (k:Int) (s0 s1 s2 s3:Nat) (a:Option Addr) (n c:Nat) (mn mx:Int) (lz:Bool) (gr:Int):Tri Tryz.prog r 19 [.agg [.int .i64 k,.int .u64 s0,.int .u64 s1,.int .u64 s2,.int .u64 s3,.slice a n c,.int .i64 mn,.int .i64 mx,.bool lz,.int .i64 gr].toArray] [] fun w H => ∃ b,w = .agg [.int .i64 6,.int .u64 0,.int .u64 0,.int .u64 0,.int .u64 0,.slice (some ⟨b,0,none⟩) 1 1,.int .i64 0,.int .i64 (-1),.bool false,.int .i64 0].toArray/\H=[pt b (.cells [.int .i64 k,.int .u64 s0,.int .u64 s1,.int .u64 s2,.int .u64 s3,.slice a n c,.int .i64 mn,.int .i64 mx,.bool lz,.int .i64 gr].toArray 28 (0,0))]:=by
 refine Tri.free2 fun R HR=>?_
 refine ae Tryz.func19 Tryz.ntmps19 ?_
 repeat' (first|((with_reducible apply kx_box);rfl;(exact qcl);intro b1;(refine apk ?_))|((with_reducible apply kx_alloc (E:=28));exact ty_zero;(exact qcl);intro b2;(refine apk ?_))|(first|((with_reducible apply kx_bs1);exact ty_el;exact ty_inf;rfl;rfl;rfl;intro bz;(refine apk ?_))|((with_reducible apply kx_bsN);exact ty_el;exact ty_inf;rfl;rfl;rfl;intro bz;(refine apk ?_)))|exact xf|refine aw0 ?_|(refine ap2 ?_ ?_<;>try intro h)|refine aw1 ?_|(refine abx ?_;intro bb)|(refine abz ?_;intro bz)|(refine ahv ?_;intro v' hv')|(refine aac ?_;intro ac cc)|refine aw2 ?_|(refine ap4 ?_ ?_<;>try intro h)|apply True.intro)
 ((with_reducible apply fp_ret);exact res_W rfl rfl atk ty_agg ty_size rfl)
 exact HR.out _ _ _ [pt bz (.cells [.int .i64 k,.int .u64 s0,.int .u64 s1,.int .u64 s2,.int .u64 s3,.slice a n c,.int .i64 mn,.int .i64 mx,.bool lz,.int .i64 gr].toArray 28 (0,0))] atks ⟨bz,rfl,rfl⟩
theorem means17_any (r:Hp) (hT:TabR r) (q:QuV) (hq:QuR r q) (s:Tx) (hz:sizeQ q.key<=9000000) (ht:textQ q.key=s):Tri Tryz.prog r 21 [.agg [.int .i64 q.kind,q.gv,q.sv].toArray,.string (bs s)] [] fun w H=>w = .bool true/\H=[]:=by
 have htx:=text_any q hz r hT hq
 rw [ht,show encQ q=[.int .i64 q.kind,q.gv,q.sv] from rfl] at htx
 refine Tri.free2 fun R HR=>?_
 refine ae Tryz.func21 Tryz.ntmps21 ?_
 repeat' (first|((with_reducible apply kx_box);rfl;(exact qcl);intro b1;(refine apk ?_))|(refine acl Tryz.func40 ?_;refine acr (htx) ?_;rintro v' H' ⟨rfl,rfl⟩;refine apl ?_)|exact xf|refine aw0 ?_|(refine ap2 ?_ ?_<;>try intro h)|refine aw1 ?_|(refine abx ?_;intro bb)|(refine abz ?_;intro bz)|(refine ahv ?_;intro v' hv')|(refine aac ?_;intro ac cc)|refine aw2 ?_|(refine ap4 ?_ ?_<;>try intro h)|apply True.intro)
 ((with_reducible apply fp_ret);exact res_1 rfl rfl)
 exact HR.out _ _ _ [] atks ⟨by first|rfl|simp,rfl⟩
def cdN:Nd:= .mk 3 [0,103079215104,0,0] [] 0 0 false 0
def allN:Nd:= .mk 3 [18446744073709551615,18446744073709551615,18446744073709551615,18446744073709551615] [] 0 0 false 0
def starN:Nd:= .mk 6 [0,0,0,0] [allN] 0 (-1) false 0
def exA:Nd:= .mk 4 [0,0,0,0] [oneN 97,oneN 98,cdN] 0 0 false 0
def exB:Nd:= .mk 4 [0,0,0,0] [oneN 97,starN,textN [98,99,100]] 0 0 false 0
theorem of_cd:ofI cdN=exactI [[99],[100]]:=by
 have h:bytesOf [0,103079215104,0,0]=[[99],[100]]:=by decide +kernel
 unfold cdN ofI
 rw [if_neg (by omega),if_pos rfl]
 unfold setI
 rw [h];rfl
theorem of_star:ofI starN=openI:=by
 unfold starN ofI repeatI
 rw [if_neg (by omega),if_neg (by omega),if_neg (by omega),if_neg (by omega),if_pos rfl,if_neg (by omega),if_neg (by omega),if_neg (by omega),if_pos (by omega)]
theorem ofA_eq:ofI exA=⟨true,[[97,98,99],[97,98,100]],[],[],allQ⟩:=by
 unfold exA
 rw [ofI_cat]
 simp only [ofIs]
 rw [of_one,of_one,of_cd]
 kernel_rfl
theorem ofB_eq:ofI exB=⟨false,[],[[97]],[[99,100]],.mk 3 [[98,99,100]] []⟩:=by
 unfold exB
 rw [ofI_cat]
 simp only [ofIs]
 rw [of_one,of_star,of_text]
 kernel_rfl
def txtA:Tx:=[40,54,49,54,50,54,51,124,54,49,54,50,54,52,41]
def txtB:Tx:=[40,54,50,54,51,54,52,41]
theorem clA:closedK ⟨true,[[97,98,99],[97,98,100]],[],[],allQ⟩ = .mk 4 [[97,98,99],[97,98,100]] []:=by kernel_rfl
theorem clB:closedK ⟨false,[],[[97]],[[99,100]],.mk 3 [[98,99,100]] []⟩ = .mk 3 [[98,99,100]] []:=by kernel_rfl
theorem tA:textQ (.mk 4 [[97,98,99],[97,98,100]] [])=txtA:=by kernel_rfl
theorem tB:textQ (.mk 3 [[98,99,100]] [])=txtB:=by kernel_rfl
theorem foldA:FoldOk (exactI [[]]) ([oneN 97,oneN 98,cdN].map ofI):=by
 simp only [List.map_cons,List.map_nil]
 rw [of_one,of_one,of_cd]
 intro j h1 h2
 have hj:j=1\/j=2:=by simp at h2;omega
 rcases hj with rfl|rfl
 · exact ⟨⟨by decide +kernel,by decide +kernel,by decide +kernel,by decide +kernel,by decide +kernel⟩,⟨by decide +kernel,by decide +kernel,by decide +kernel,by decide +kernel,by decide +kernel⟩,⟨by decide +kernel,by decide +kernel,by decide +kernel⟩,⟨by decide +kernel,by decide +kernel,by decide +kernel⟩,⟨by decide +kernel,by decide +kernel,by decide +kernel,by decide +kernel,by decide +kernel⟩,by decide +kernel,by decide +kernel,by decide +kernel⟩
 · exact ⟨⟨by decide +kernel,by decide +kernel,by decide +kernel,by decide +kernel,by decide +kernel⟩,⟨by decide +kernel,by decide +kernel,by decide +kernel,by decide +kernel,by decide +kernel⟩,⟨by decide +kernel,by decide +kernel,by decide +kernel⟩,⟨by decide +kernel,by decide +kernel,by decide +kernel⟩,⟨by decide +kernel,by decide +kernel,by decide +kernel,by decide +kernel,by decide +kernel⟩,by decide +kernel,by decide +kernel,by decide +kernel⟩
theorem foldB17:FoldOk (exactI [[]]) ([oneN 97,starN,textN [98,99,100]].map ofI):=by
 simp only [List.map_cons,List.map_nil]
 rw [of_one,of_star,of_text]
 intro j h1 h2
 have hj:j=1\/j=2:=by simp at h2;omega
 rcases hj with rfl|rfl
 · exact ⟨⟨by decide +kernel,by decide +kernel,by decide +kernel,by decide +kernel,by decide +kernel⟩,⟨by decide +kernel,by decide +kernel,by decide +kernel,by decide +kernel,by decide +kernel⟩,⟨by decide +kernel,by decide +kernel,by decide +kernel⟩,⟨by decide +kernel,by decide +kernel,by decide +kernel⟩,⟨by decide +kernel,by decide +kernel,by decide +kernel,by decide +kernel,by decide +kernel⟩,by decide +kernel,by decide +kernel,by decide +kernel⟩
 · exact ⟨⟨by decide +kernel,by decide +kernel,by decide +kernel,by decide +kernel,by decide +kernel⟩,⟨by decide +kernel,by decide +kernel,by decide +kernel,by decide +kernel,by decide +kernel⟩,⟨by decide +kernel,by decide +kernel,by decide +kernel⟩,⟨by decide +kernel,by decide +kernel,by decide +kernel⟩,⟨by decide +kernel,by decide +kernel,by decide +kernel,by decide +kernel,by decide +kernel⟩,by decide +kernel,by decide +kernel,by decide +kernel⟩
theorem okA:OkN exA:= .cat _ _ _ _ _ _ (fun x hx=>by
 rcases List.mem_cons.1 hx with rfl|hx
 · exact ok_one _
 · rcases List.mem_cons.1 hx with rfl|hx
   · exact ok_one _
   · rw [List.mem_singleton.1 hx];exact .set _ _ _ _ _ _) foldA
theorem okB:OkN exB:= .cat _ _ _ _ _ _ (fun x hx=>by
 rcases List.mem_cons.1 hx with rfl|hx
 · exact ok_one _
 · rcases List.mem_cons.1 hx with rfl|hx
   · exact .rep _ _ _ _ _ _ (by omega) (by omega) (by omega)
   · rw [List.mem_singleton.1 hx];exact ok_text _ (by decide)) foldB17
theorem fitA:FitI ⟨true,[[97,98,99],[97,98,100]],[],[],allQ⟩:=⟨by decide +kernel,by decide +kernel,by decide +kernel,by decide +kernel,by decide +kernel⟩
theorem fitBB:FitI ⟨false,[],[[97]],[[99,100]],.mk 3 [[98,99,100]] []⟩:=⟨by decide +kernel,by decide +kernel,by decide +kernel,by decide +kernel,by decide +kernel⟩
end Go.Proofs.YteknekiclhnkiaaGreatDoor
