/- mudlarklaw17.awake: its contract. -/
import Derived.Test.YteknekiclhnkiaaGreatDoorPa
set_option maxHeartbeats 8000000
set_option maxRecDepth 10000
namespace Go.Proofs.YteknekiclhnkiaaGreatDoor
open Go.RowKit Go.Maps Sx
theorem lit_nodes {r:Hp} {b n:Nat} {l:List NoV} {c:List Value} {E:TypeId} {fz:Nat × Nat} (h:r b=some (.cells c.toArray E fz)) (hc:l.flatMap encN=c) (hn:l.length=n) (hm:n<=1000):Els r 10 encN (.slice (some ⟨b,0,none⟩) n n) l:=by
 subst hn
 refine ⟨encN_len,flat_len (sz:=10) encN_len l,by unfold maxLen;omega,.inr ⟨b,0,_,c.toArray,E,fz,rfl,Nat.le_refl _,h,fun j hj=>?_⟩⟩
 subst hc
 rw [Nat.zero_add,List.getElem?_toArray,List.getElem?_eq_getElem hj]
theorem e97:encN (oneV 97)=[.int .i64 3,.int .u64 0,.int .u64 8589934592,.int .u64 0,.int .u64 0,.slice none 0 0,.int .i64 0,.int .i64 0,.bool false,.int .i64 0]:=by kernel_rfl
theorem e98:encN (oneV 98)=[.int .i64 3,.int .u64 0,.int .u64 17179869184,.int .u64 0,.int .u64 0,.slice none 0 0,.int .i64 0,.int .i64 0,.bool false,.int .i64 0]:=by kernel_rfl
theorem e99:encN (oneV 99)=[.int .i64 3,.int .u64 0,.int .u64 34359738368,.int .u64 0,.int .u64 0,.slice none 0 0,.int .i64 0,.int .i64 0,.bool false,.int .i64 0]:=by kernel_rfl
theorem h97 (r:Hp):Tri Tryz.prog r 17 [.int .u8 97] [] fun w H=>w = .agg [.int .i64 3,.int .u64 0,.int .u64 8589934592,.int .u64 0,.int .u64 0,.slice none 0 0,.int .i64 0,.int .i64 0,.bool false,.int .i64 0].toArray/\H=[]:=by
 have h:=one_any r 97
 rw [e97] at h
 exact h
theorem h98 (r:Hp):Tri Tryz.prog r 17 [.int .u8 98] [] fun w H=>w = .agg [.int .i64 3,.int .u64 0,.int .u64 17179869184,.int .u64 0,.int .u64 0,.slice none 0 0,.int .i64 0,.int .i64 0,.bool false,.int .i64 0].toArray/\H=[]:=by
 have h:=one_any r 98
 rw [e98] at h
 exact h
theorem h99 (r:Hp):Tri Tryz.prog r 17 [.int .u8 99] [] fun w H=>w = .agg [.int .i64 3,.int .u64 0,.int .u64 34359738368,.int .u64 0,.int .u64 0,.slice none 0 0,.int .i64 0,.int .i64 0,.bool false,.int .i64 0].toArray/\H=[]:=by
 have h:=one_any r 99
 rw [e99] at h
 exact h
def cdV:NoV:= .mk 3 0 103079215104 0 0 (.slice none 0 0) [] 0 0 false 0
def allV:NoV:= .mk 3 18446744073709551615 18446744073709551615 18446744073709551615 18446744073709551615 (.slice none 0 0) [] 0 0 false 0
def starV (b:Nat):NoV:= .mk 6 0 0 0 0 (.slice (some ⟨b,0,none⟩) 1 1) [allV] 0 (-1) false 0
theorem bare_read (r:Hp) (k:Int) (hk:KindR k) (s0 s1 s2 s3:Nat) (h0:s0<2 ^ 64) (h1:s1<2 ^ 64) (h2:s2<2 ^ 64) (h3:s3<2 ^ 64):NoR r (.mk k s0 s1 s2 s3 (.slice none 0 0) [] 0 0 false 0):=by
 simp only [NoR,NoL]
 exact ⟨els_nilN r,trivial,hk,h0,h1,h2,h3,rfl⟩
theorem one3' (r:Hp):NoR r cdV/\NoR r allV:=⟨bare_read r 3 (by unfold KindR;omega) _ _ _ _ (by omega) (by omega) (by omega) (by omega),bare_read r 3 (by unfold KindR;omega) _ _ _ _ (by omega) (by omega) (by omega) (by omega)⟩
theorem keyA (v:Value):(NoV.mk 4 0 0 0 0 v [oneV 97,oneV 98,cdV] 0 0 false 0).key=exA:=by
 rw [nkey_mk]
 simp only [List.map_cons,List.map_nil,oneV_key]
 rfl
theorem keyB (v:Value) (b:Nat) (a:Option Addr) (c:Nat):(NoV.mk 4 0 0 0 0 v [oneV 97,starV b,textV a c [98,99,100]] 0 0 false 0).key=exB:=by
 rw [nkey_mk]
 simp only [List.map_cons,List.map_nil,oneV_key,textV_key]
 rfl
theorem hofA (r:Hp) (hT:TabR r) (bz:Nat):Tri Tryz.prog r 9 [.agg [.int .i64 4,.int .u64 0,.int .u64 0,.int .u64 0,.int .u64 0,.slice (some ⟨bz,0,none⟩) 3 3,.int .i64 0,.int .i64 0,.bool false,.int .i64 0].toArray] [pt bz (.cells [.int .i64 3,.int .u64 0,.int .u64 8589934592,.int .u64 0,.int .u64 0,.slice none 0 0,.int .i64 0,.int .i64 0,.bool false,.int .i64 0,.int .i64 3,.int .u64 0,.int .u64 17179869184,.int .u64 0,.int .u64 0,.slice none 0 0,.int .i64 0,.int .i64 0,.bool false,.int .i64 0,.int .i64 3,.int .u64 0,.int .u64 103079215104,.int .u64 0,.int .u64 0,.slice none 0 0,.int .i64 0,.int .i64 0,.bool false,.int .i64 0].toArray 28 (0,0))] fun w H => ∃ u:InfV,u.key=⟨true,[[97,98,99],[97,98,100]],[],[],allQ⟩/\(encQ u.q).all one?=true/\w = .agg [.bool u.known,.slice u.ea u.ex.length u.ec,.slice u.pa u.pre.length u.pc,.slice u.sa u.suf.length u.sc,.int .i64 u.q.kind,u.q.gv,u.q.sv].toArray/\H=[OwnI u] :=
 Tri.frz fun r' g s1 t1 h=>by
  have hb:r' bz=some (.cells [.int .i64 3,.int .u64 0,.int .u64 8589934592,.int .u64 0,.int .u64 0,.slice none 0 0,.int .i64 0,.int .i64 0,.bool false,.int .i64 0,.int .i64 3,.int .u64 0,.int .u64 17179869184,.int .u64 0,.int .u64 0,.slice none 0 0,.int .i64 0,.int .i64 0,.bool false,.int .i64 0,.int .i64 3,.int .u64 0,.int .u64 103079215104,.int .u64 0,.int .u64 0,.slice none 0 0,.int .i64 0,.int .i64 0,.bool false,.int .i64 0].toArray 28 (0,0)):=t1 _ _ (by rw [show g=Sx.one bz _ from h];exact Sx.one_same)
  have h2:=of_ok (.mk 4 0 0 0 0 (.slice (some ⟨bz,0,none⟩) 3 3) [oneV 97,oneV 98,cdV] 0 0 false 0) (by rw [keyA];exact okA) r' (hT.mono s1) (by
   simp only [NoR,NoL]
   exact ⟨lit_nodes hb (by rw [List.flatMap_cons,List.flatMap_cons,List.flatMap_cons,List.flatMap_nil,e97,e98];rfl) rfl (by omega),⟨oneV_read r' 97,oneV_read r' 98,(one3' r').1,trivial⟩,by unfold KindR;omega,by omega,by omega,by omega,by omega,rfl⟩)
  rw [keyA,ofA_eq] at h2
  exact h2
theorem hofB (r:Hp) (hT:TabR r) (bz bs1:Nat) (a:Option Addr) (c:Nat):Tri Tryz.prog r 9 [.agg [.int .i64 4,.int .u64 0,.int .u64 0,.int .u64 0,.int .u64 0,.slice (some ⟨bz,0,none⟩) 3 3,.int .i64 0,.int .i64 0,.bool false,.int .i64 0].toArray] [pt bz (.cells [.int .i64 3,.int .u64 0,.int .u64 8589934592,.int .u64 0,.int .u64 0,.slice none 0 0,.int .i64 0,.int .i64 0,.bool false,.int .i64 0,.int .i64 6,.int .u64 0,.int .u64 0,.int .u64 0,.int .u64 0,.slice (some ⟨bs1,0,none⟩) 1 1,.int .i64 0,.int .i64 (-1),.bool false,.int .i64 0,.int .i64 4,.int .u64 0,.int .u64 0,.int .u64 0,.int .u64 0,.slice a 3 c,.int .i64 0,.int .i64 0,.bool false,.int .i64 0].toArray 28 (0,0)),pt bs1 (.cells [.int .i64 3,.int .u64 18446744073709551615,.int .u64 18446744073709551615,.int .u64 18446744073709551615,.int .u64 18446744073709551615,.slice none 0 0,.int .i64 0,.int .i64 0,.bool false,.int .i64 0].toArray 28 (0,0)),KidC a c [98,99,100]] fun w H => ∃ u:InfV,u.key=⟨false,[],[[97]],[[99,100]],.mk 3 [[98,99,100]] []⟩/\(encQ u.q).all one?=true/\w = .agg [.bool u.known,.slice u.ea u.ex.length u.ec,.slice u.pa u.pre.length u.pc,.slice u.sa u.suf.length u.sc,.int .i64 u.q.kind,u.q.gv,u.q.sv].toArray/\H=[OwnI u] :=
 Tri.frz fun r1 g1 s1 t1 h1=>Tri.frz fun r2 g2 s2 t2 h2=>Tri.frz fun r3 g3 s3 t3 h3=>by
  have hb:r3 bz=some (.cells [.int .i64 3,.int .u64 0,.int .u64 8589934592,.int .u64 0,.int .u64 0,.slice none 0 0,.int .i64 0,.int .i64 0,.bool false,.int .i64 0,.int .i64 6,.int .u64 0,.int .u64 0,.int .u64 0,.int .u64 0,.slice (some ⟨bs1,0,none⟩) 1 1,.int .i64 0,.int .i64 (-1),.bool false,.int .i64 0,.int .i64 4,.int .u64 0,.int .u64 0,.int .u64 0,.int .u64 0,.slice a 3 c,.int .i64 0,.int .i64 0,.bool false,.int .i64 0].toArray 28 (0,0)):=s3 _ _ (s2 _ _ (t1 _ _ (by rw [show g1=Sx.one bz _ from h1];exact Sx.one_same)))
  have hc:r3 bs1=some (.cells [.int .i64 3,.int .u64 18446744073709551615,.int .u64 18446744073709551615,.int .u64 18446744073709551615,.int .u64 18446744073709551615,.slice none 0 0,.int .i64 0,.int .i64 0,.bool false,.int .i64 0].toArray 28 (0,0)):=s3 _ _ (t2 _ _ (by rw [show g2=Sx.one bs1 _ from h2];exact Sx.one_same))
  have hst:NoR r3 (starV bs1):=by
   unfold starV
   simp only [NoR,NoL]
   exact ⟨lit_nodes hc rfl rfl (by omega),⟨(one3' r3).2,trivial⟩,by unfold KindR;omega,by omega,by omega,by omega,by omega,rfl⟩
  have h4:=of_ok (.mk 4 0 0 0 0 (.slice (some ⟨bz,0,none⟩) 3 3) [oneV 97,starV bs1,textV a c [98,99,100]] 0 0 false 0) (by rw [keyB];exact okB) r3 (hT.mono (Sx.sub.trans s1 (Sx.sub.trans s2 s3))) (by
   simp only [NoR,NoL]
   exact ⟨lit_nodes hb (by rw [List.flatMap_cons,List.flatMap_cons,List.flatMap_cons,List.flatMap_nil,e97];rfl) rfl (by omega),⟨oneV_read r3 97,hst,textV_read h3 t3,trivial⟩,by unfold KindR;omega,by omega,by omega,by omega,by omega,rfl⟩)
  rw [keyB,ofB_eq] at h4
  exact h4
theorem key_ofA {u:InfV} (h:u.key=⟨true,[[97,98,99],[97,98,100]],[],[],allQ⟩):u.known=true/\u.ex.length=2/\u.ex.getD (Int.toNat 0) default=[97,98,99]:=by
 obtain ⟨known,ea,ec,ex,pa,pc,pre,sa,sc,suf,q⟩:=u
 simp only [InfV.key,InfK.mk.injEq] at h
 obtain ⟨rfl,rfl,_⟩:=h
 exact ⟨rfl,rfl,rfl⟩
theorem key_ofB {u:InfV} (h:u.key=⟨false,[],[[97]],[[99,100]],.mk 3 [[98,99,100]] []⟩):u.known=false/\u.pre.length=1/\u.pre.getD (Int.toNat 0) default=[97]/\u.suf.length=1/\u.suf.getD (Int.toNat 0) default=[99,100]:=by
 obtain ⟨known,ea,ec,ex,pa,pc,pre,sa,sc,suf,q⟩:=u
 simp only [InfV.key,InfK.mk.injEq] at h
 obtain ⟨rfl,_,rfl,rfl,_⟩:=h
 exact ⟨rfl,rfl,rfl,rfl,rfl⟩
theorem awake17_any (r:Hp) (hT:TabR r):Tri Tryz.prog r 4 [] [] fun w H=>w = .bool true/\H=[]:=by
 have hmul:IntKind.u64.wrap (34359738368*3)=103079215104:=by kernel_rfl
 have hofn:=fun r' b=>of17_any r' 4 (some ⟨b,0,none⟩) 3 3
 refine Tri.free2 fun R HR=>?_
 refine ae Tryz.func4 Tryz.ntmps4 ?_
 repeat' (first|(refine acl Tryz.func17 ?_;refine acr (h99 _) ?_;rintro v' H' ⟨rfl,rfl⟩;refine apl ?_)|((with_reducible apply kx_alloc (E:=28));exact ty_zero;(exact qcl);intro b1;(refine apk ?_))|((with_reducible apply swo_pur);(with_reducible apply pu_ixArr (q:=1));exact Tryz.underlying25;exact ty_size;rfl;rfl;rfl;(omega);(refine apk ?_))|(rw [hmul])|((with_reducible apply sw_midW (c1:= .region 3 _ _) (I:=fun t' H' => ∃ (b2:Nat) (u:InfV),(u.key=⟨true,[[97,98,99],[97,98,100]],[],[],allQ⟩)/\((encQ u.q).all one?=true)/\(∃ G,Takes [pt b2 (.cells [.bool u.known,.slice u.ea u.ex.length u.ec,.slice u.pa u.pre.length u.pc,.slice u.sa u.suf.length u.sc,.int .i64 u.q.kind,u.q.gv,u.q.sv].toArray 40 (0,0)),OwnI u] H' G)/\Sls t' 83 [(0,.bool false),(2,.pointer (some ⟨b2,0,none⟩))])))|exact xf|refine aw0 ?_|(refine ap2 ?_ ?_<;>try intro h)|refine aw1 ?_|(refine abx ?_;intro bb)|(refine abz ?_;intro bz)|(refine ahv ?_;intro v' hv')|(refine aac ?_;intro ac cc)|refine aw2 ?_|(refine ap4 ?_ ?_<;>try intro h)|apply True.intro)
 · repeat' (first|((with_reducible apply sw_drawT (id:=3) 7 (Pl.seg [(2,true)] (Pl.two 0 6 (Pl.seg [] (Pl.two 1 6 (Pl.seg [] (Pl.two 3 6 (Pl.seg [] (Pl.two 4 6 (Pl.seg [] (Pl.two 5 6 (Pl.seg [(6,false)] Pl.leaf) (Pl.seg [(5,false)] Pl.leaf))) (Pl.seg [(4,false),(5,false)] Pl.leaf))) (Pl.seg [(3,false),(4,false),(5,false)] Pl.leaf))) (Pl.seg [(1,false),(3,false),(4,false),(5,false)] Pl.leaf))) (Pl.seg [(0,false),(1,false),(3,false),(4,false),(5,false)] Pl.leaf))) (List.replicate 7 true++List.replicate 1 false).toArray [(7,false)] [(b1,.cells [.int .i64 3,.int .u64 0,.int .u64 103079215104,.int .u64 0,.int .u64 0,.slice none 0 0,.int .i64 0,.int .i64 0,.bool false,.int .i64 0].toArray 28 (0,0))]);kernel_rfl;(exact atks);kernel_rfl;intro r' hl')|((with_reducible apply pi_pur);rfl;(exact qwt);(with_reducible apply pu_ldP);rfl;(first|assumption|exact Lent.h1 hl'|exact Lent.h2 hl'|exact Lent.h3 hl');(simp only [cut,List.drop_zero,List.take_succ_cons,List.take_zero];rfl);rfl;(refine apk ?_))|(refine acl Tryz.func17 ?_;refine acr (h97 _) ?_;rintro v' H' ⟨rfl,rfl⟩;refine apl ?_)|(refine acl Tryz.func17 ?_;refine acr (h98 _) ?_;rintro v' H' ⟨rfl,rfl⟩;refine apl ?_)|(first|((with_reducible apply kx_bs1);exact ty_el;exact ty_inf;rfl;rfl;rfl;intro bz;(refine apk ?_))|((with_reducible apply kx_bsN);exact ty_el;exact ty_inf;rfl;rfl;rfl;intro bz;(refine apk ?_)))|(refine acl Tryz.func18 ?_;refine acr (hofn _ bz) ?_;rintro v' H' ⟨rfl,rfl⟩;refine apl ?_)|(refine acl Tryz.func9 ?_;refine acr ((hofA r hT bz).up hl'.1) ?_;rintro v' H' ⟨u,hu1,hu2,rfl,rfl⟩;refine apl ?_)|((with_reducible apply kx_alloc (E:=40));exact ty_zero;(exact qcl);intro b2;(refine apk ?_))|((with_reducible apply kx_storeN);exact ty_size;rfl;rfl;rfl;(exact qsw);exact encI_one hu2;(exact qst);(refine apk ?_))|exact xf|refine aw0 ?_|(refine ap2 ?_ ?_<;>try intro h)|refine aw1 ?_|(refine abx ?_;intro bb)|(refine abz ?_;intro bz)|(refine ahv ?_;intro v' hv')|(refine aac ?_;intro ac cc)|refine aw2 ?_|(refine ap4 ?_ ?_<;>try intro h)|apply True.intro)
   all_goals exact ⟨b2,u,hu1,hu2,⟨_,atks⟩,asls⟩
 · rintro t' H' ⟨b2,u,hu1,hu2,⟨G,hp⟩,hs'⟩
   revert t';refine sls_all ?_;iterate 81 intro uu'
   refine sw_takeG hp ?_;clear hp
   have hstar:=fun r'=>star_any r' 3 18446744073709551615 18446744073709551615 18446744073709551615 18446744073709551615 none 0 0 0 0 false 0
   have htxt:=fun r'=>text17_any r' [98,99,100] (by simp)
   repeat' (first|exact xf|refine aw0 ?_|(refine ap2 ?_ ?_<;>try intro h)|refine aw1 ?_|(refine abx ?_;intro bb)|(refine abz ?_;intro bz)|(refine ahv ?_;intro v' hv')|(refine aac ?_;intro ac cc)|refine aw2 ?_|(refine ap4 ?_ ?_<;>try intro h)|apply True.intro)
   ((with_reducible refine swo_kit ?_ ?_);rfl;intro w ds K' hK;gi_big_op;(with_reducible refine hK _ ?_);clear hK K' ds w)
   repeat' (first|((with_reducible apply kx_alloc (E:=28));exact ty_zero;(exact qcl);intro b3;(refine apk ?_))|((with_reducible apply sw_midW (c1:= .region 5 _ _) (I:=fun t' H' => ∃ (b4:Nat) (v:InfV),(v.key=⟨false,[],[[97]],[[99,100]],.mk 3 [[98,99,100]] []⟩)/\((encQ v.q).all one?=true)/\(∃ G,Takes [pt b2 (.cells [.bool u.known,.slice u.ea u.ex.length u.ec,.slice u.pa u.pre.length u.pc,.slice u.sa u.suf.length u.sc,.int .i64 u.q.kind,u.q.gv,u.q.sv].toArray 40 (0,0)),OwnI u,pt b4 (.cells [.bool v.known,.slice v.ea v.ex.length v.ec,.slice v.pa v.pre.length v.pc,.slice v.sa v.suf.length v.sc,.int .i64 v.q.kind,v.q.gv,v.q.sv].toArray 40 (0,0)),OwnI v] H' G)/\Sls t' 83 [(0,.bool false),(2,.pointer (some ⟨b2,0,none⟩)),(4,.pointer (some ⟨b4,0,none⟩))])))|exact xf|refine aw0 ?_|(refine ap2 ?_ ?_<;>try intro h)|refine aw1 ?_|(refine abx ?_;intro bb)|(refine abz ?_;intro bz)|(refine ahv ?_;intro v' hv')|(refine aac ?_;intro ac cc)|refine aw2 ?_|(refine ap4 ?_ ?_<;>try intro h)|apply True.intro)
   · repeat' (first|((with_reducible apply sw_drawT (id:=5) 8 (Pl.seg [(1,true)] (Pl.two 0 7 (Pl.seg [] (Pl.two 2 7 (Pl.seg [] (Pl.two 3 7 (Pl.seg [] (Pl.two 4 7 (Pl.seg [] (Pl.two 5 7 (Pl.seg [] (Pl.two 6 7 (Pl.seg [(7,false)] Pl.leaf) (Pl.seg [(6,false)] Pl.leaf))) (Pl.seg [(5,false),(6,false)] Pl.leaf))) (Pl.seg [(4,false),(5,false),(6,false)] Pl.leaf))) (Pl.seg [(3,false),(4,false),(5,false),(6,false)] Pl.leaf))) (Pl.seg [(2,false),(3,false),(4,false),(5,false),(6,false)] Pl.leaf))) (Pl.seg [(0,false),(2,false),(3,false),(4,false),(5,false),(6,false)] Pl.leaf))) (List.replicate 8 true++List.replicate 1 false).toArray [(8,false)] [(b3,.cells [.int .i64 3,.int .u64 18446744073709551615,.int .u64 18446744073709551615,.int .u64 18446744073709551615,.int .u64 18446744073709551615,.slice none 0 0,.int .i64 0,.int .i64 0,.bool false,.int .i64 0].toArray 28 (0,0))]);kernel_rfl;(exact atks);kernel_rfl;intro r' hl')|((with_reducible apply pi_pur);rfl;(exact qwt);(with_reducible apply pu_ldP);rfl;(first|assumption|exact Lent.h1 hl'|exact Lent.h2 hl'|exact Lent.h3 hl');(simp only [cut,List.drop_zero,List.take_succ_cons,List.take_zero];rfl);rfl;(refine apk ?_))|(refine acl Tryz.func17 ?_;refine acr (h97 _) ?_;rintro v' H' ⟨rfl,rfl⟩;refine apl ?_)|(refine acl Tryz.func19 ?_;refine acr (hstar _) ?_;rintro v' H' ⟨bs1,rfl,rfl⟩;refine apl ?_)|(refine acl Tryz.func20 ?_;refine acr (htxt _) ?_;rintro v' H' ⟨a,c,rfl,rfl⟩;refine apl ?_)|(first|((with_reducible apply kx_bs1);exact ty_el;exact ty_inf;rfl;rfl;rfl;intro bz;(refine apk ?_))|((with_reducible apply kx_bsN);exact ty_el;exact ty_inf;rfl;rfl;rfl;intro bz;(refine apk ?_)))|(refine acl Tryz.func18 ?_;refine acr (hofn _ bz) ?_;rintro v' H' ⟨rfl,rfl⟩;refine apl ?_)|(refine acl Tryz.func9 ?_;refine acr ((hofB r hT bz bs1 a c).up hl'.1) ?_;rintro v' H' ⟨v,hv1,hv2,rfl,rfl⟩;refine apl ?_)|((with_reducible apply kx_alloc (E:=40));exact ty_zero;(exact qcl);intro b4;(refine apk ?_))|((with_reducible apply kx_storeN);exact ty_size;rfl;rfl;rfl;(exact qsw);exact encI_one hv2;(exact qst);(refine apk ?_))|exact xf|refine aw0 ?_|(refine ap2 ?_ ?_<;>try intro h)|refine aw1 ?_|(refine abx ?_;intro bb)|(refine abz ?_;intro bz)|(refine ahv ?_;intro v' hv')|(refine aac ?_;intro ac cc)|refine aw2 ?_|(refine ap4 ?_ ?_<;>try intro h)|apply True.intro)
     all_goals exact ⟨b4,v,hv1,hv2,⟨_,atks⟩,asls⟩
   · rintro t' H' ⟨b4,v,hv1,hv2,⟨G,hp⟩,hs'⟩
     revert t';refine sls_all ?_;iterate 80 intro uu'
     refine sw_takeG hp ?_;clear hp
     obtain ⟨a1,a2,a3⟩:=key_ofA hu1
     obtain ⟨c1,c2,c3,c4,c5⟩:=key_ofB hv1
     refine sw_lendQ (A:=OwnI u) atk fun r1 g1 hr1 hg1 hA1=>?_
     refine sw_lendQ (A:=OwnI v) atk fun r2 g2 hr2 hg2 hA2=>?_
     have hT2:=hT.mono (Sx.sub.trans hr1 hr2)
     have hru:=(ownI_read hA1 hg1).mono hr2
     have hrv:=ownI_read hA2 hg2
     have hue:=hru.ex
     have hvp:=hrv.pre
     have hvs:=hrv.suf
     have hcu:=closed_any r2 hT2 u hru (by rw [hu1];exact fitA) hu2
     have hcv:=closed_any r2 hT2 v hrv (by rw [hv1];exact fitBB) hv2
     rw [hu1,clA] at hcu
     rw [hv1,clB] at hcv
     have hma:=fun (q:QuV) (k:q.key = .mk 4 [[97,98,99],[97,98,100]] []) r' g (s1:sub r2 r') (h:OwnQ q g) (s2:sub g r')=>means17_any r' (hT2.mono s1) q (own_read h s2) txtA (by rw [k];decide) (by rw [k];exact tA)
     have hmb:=fun (q:QuV) (k:q.key = .mk 3 [[98,99,100]] []) r' g (s1:sub r2 r') (h:OwnQ q g) (s2:sub g r')=>means17_any r' (hT2.mono s1) q (own_read h s2) txtB (by rw [k];decide) (by rw [k];exact tB)
     rw [a1] at hcu ⊢
     rw [c1] at hcv ⊢
     repeat' (first|(rw [a3])|(rw [c3])|(rw [c5])|(refine acl Tryz.func15 ?_;refine acr (hcu) ?_;rintro v' H' ⟨q,hq1,hq2,rfl,rfl⟩;refine apl ?_)|(refine acl Tryz.func15 ?_;refine acr (hcv) ?_;rintro v' H' ⟨p,hp1,hp2,rfl,rfl⟩;refine apl ?_)|((with_reducible refine swo_isCall 21 ?_);(with_reducible apply kx_lendC (A:=OwnQ q));(exact atk);intro r7 g7 hr7 hg7 hA7;(refine acl Tryz.func21 ?_;refine acr (hma q hq1 r7 g7 hr7 hA7 hg7) ?_;rintro v' H' ⟨rfl,rfl⟩;refine apl ?_))|((with_reducible refine swo_isCall 21 ?_);(with_reducible apply kx_lendC (A:=OwnQ p));(exact atk);intro r7 g7 hr7 hg7 hA7;(refine acl Tryz.func21 ?_;refine acr (hmb p hp1 r7 g7 hr7 hA7 hg7) ?_;rintro v' H' ⟨rfl,rfl⟩;refine apl ?_))|exact xf|refine aw0 ?_|(refine ap2 ?_ ?_<;>try intro h)|refine aw1 ?_|(refine abx ?_;intro bb)|(refine abz ?_;intro bz)|(refine ahv ?_;intro v' hv')|(refine aac ?_;intro ac cc)|refine aw2 ?_|(refine ap4 ?_ ?_<;>try intro h)|apply True.intro)
     ((with_reducible apply fp_ret);exact res_1 rfl rfl)
     exact HR.out _ _ _ [] Takes.all ⟨by first|rfl|simp,rfl⟩
end Go.Proofs.YteknekiclhnkiaaGreatDoor
