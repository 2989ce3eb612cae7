/- asker's alt, and what a repeat adds: their contracts. -/
import Derived.Test.YteknekiclhnkiaaGreatDoorZh
set_option maxHeartbeats 8000000
set_option maxRecDepth 10000
namespace Go.Proofs.YteknekiclhnkiaaGreatDoor
open Go.RowKit Sx
theorem alt_sp (r:Hp) (hT:TabF r) (v:Value) (s:Tx) (hv:U8S r v s) (hs:s.length<=62) (hv1:one? v=true) (k:Int) (s0 s1 s2 s3:Nat) (kv:Value) (mn mx:Int) (lz:Bool) (gr:Int) (l:List NoV) (hll:l.length<=1000) (hl:Els r 10 encN kv l) (hk1:one? kv=true) (hr : ∀ x∈l,NoR r x) (ih : ∀ x∈l,SpT s x):Tri Tryz.prog r 54 [.agg [v].toArray,.agg [.int .i64 k,.int .u64 s0,.int .u64 s1,.int .u64 s2,.int .u64 s3,kv,.int .i64 mn,.int .i64 mx,.bool lz,.int .i64 gr].toArray] [] fun w H => ∃ T a c,(TabOk s.length T/\SubT T (fun a b => ∃ q∈matNs PT s (l.map NoV.key),q a b))/\w = .slice a T.length c/\H=[TbC a c T]:=by
 have hki:=kids_sp r hT v s hv hv1 k s0 s1 s2 s3 kv mn mx lz gr l hll hl hk1 hr ih
 have hno:=none_sp r v s hv hs hv1 k s0 s1 s2 s3 kv mn mx lz gr hk1
 have hea : ∀ r' (_:sub r r') b5 b7 a c A (z:TbV),TabOk s.length A->TabOk s.length z.T->Els r' 4 encE (.slice a A.length c) A->Els r' 4 encE (.slice z.a z.T.length z.c) z.T->r' b5=some (tbox b5 a c A).2->r' b7=some (tbox b7 z.a z.c z.T).2->Tri Tryz.prog r' 87 [v,.func (.func 94) #[] [.pointer (some ⟨b5,0,none⟩),.pointer (some ⟨b7,0,none⟩)].toArray] [noJ] fun w H => ∃ a c,w = .slice a (orT s.length A z.T).length c/\H=[TbC a c (orT s.length A z.T),noJ]:=fun r' hr b5 b7 a c A z oA oz hA hz h5 h7=>each_any r' v s (hv.mono hr) hs 94 _ (goesOf Tryz.func94 (by kernel_rfl) rfl) (fun _=>noJ) (fun i=>A.getD i 0 ||| z.T.getD i 0) fun i hi=>(alt1_any r' s.length (by omega) b5 b7 a z.a c z.c A z.T hA hz oA oz h5 h7 i hi).addJ
 obtain ⟨M,hM⟩ : ∃ M,matNs PT s (l.map NoV.key)=M:=⟨_,rfl⟩
 rw [hM] at hki ⊢
 have hok : ∀ {Z:List TbV},SubsT s.length (Z.map (·.T)) M -> ∀ z∈Z,TabOk s.length z.T:=fun h z hz=>h.ok _ (List.mem_map_of_mem hz)
 clear hl hr ih hM
 refine Tri.free2 fun R HR=>?_
 refine ae Tryz.func54 Tryz.ntmps54 ?_
 repeat' (first|((with_reducible apply kx_box (v:= .agg [v].toArray));rfl;(exact qcl);intro b2;(refine apk ?_))|((with_reducible apply kx_box (v:= .agg [.int .i64 k,.int .u64 s0,.int .u64 s1,.int .u64 s2,.int .u64 s3,kv,.int .i64 mn,.int .i64 mx,.bool lz,.int .i64 gr].toArray));rfl;(exact qcl);intro b3;(refine apk ?_))|((with_reducible apply kx_alloc (E:=69));exact ty_zero;(exact qcl);intro b5;(refine apk ?_))|(refine acl Tryz.func51 ?_;refine acr (hno) ?_;rintro v' H' ⟨a0,c0,rfl,rfl⟩;refine apl ?_)|(refine acl Tryz.func93 ?_;refine acr (hki) ?_;rintro v' H' ⟨Z,a8,c8,hZ,rfl,rfl⟩;refine apl ?_)|exact xf|refine aw0 ?_|(refine ap2 ?_ ?_<;>try intro h)|refine aw1 ?_|(refine abx ?_;intro bb)|(refine abz ?_;intro bz)|(refine ahv ?_;intro v' hv')|(refine aac ?_;intro ac cc)|refine aw2 ?_|(refine ap4 ?_ ?_<;>try intro h)|apply True.intro)
 have hoZ:=hok hZ
 refine sw_lendQ (A:=RowC 69 1 (.slice a8 Z.length c8) Z.length (Z.flatMap encTb)) atk fun r2 g2 hr2 hg2 hA2=>?_
 refine sw_lendQ (A:=TbsC Z) atk fun r3 g3 hr3 hg3 hA3=>?_
 have hlZ:Els r3 1 encTb (.slice a8 Z.length c8) Z:=⟨fun _=>rfl,(hA2.sl hg2).mono hr3⟩
 have heZ:=tbsC_in hA3 hg3
 have h03:=Sx.sub.trans hr2 hr3
 have hlm:=maxI hlZ.2.2.1
 refine sw_loop (fun gm t H' => ∃ (i:Nat) (a:Option Addr) (c:Nat),gm=Z.length+1 - i/\(i<=Z.length)/\(∃ G,Takes [pt b2 (.cells [v].toArray 72 (0,0)),pt b5 (tbox b5 a c (altT s.length ((Z.take i).map (·.T)))).2,TbC a c (altT s.length ((Z.take i).map (·.T)))] H' G)/\Sls t 25 [(2,.pointer (some ⟨b2,0,none⟩)),(5,.pointer (some ⟨b5,0,none⟩)),(13,.slice a8 Z.length c8),(14,.int .i64 Z.length),(15,.int .i64 i)]) _ ⟨0,a0,c0,rfl,Nat.zero_le _,⟨_,atks⟩,asls⟩ ?_
 rintro gm t H' ⟨i,a,c,rfl,hi,⟨G,hp⟩,hs'⟩
 revert t;refine sls_all ?_;iterate 20 intro uu'
 refine sw_takeG hp ?_;clear hp
 have hBo:TabOk s.length (altT s.length ((Z.take i).map (·.T))):=altT_ok fun B hB=>by
  obtain ⟨z,hz,rfl⟩:=List.mem_map.1 hB
  exact hoZ z (List.mem_of_mem_take hz)
 by_cases hlt:i<Z.length
 · obtain ⟨z,hz⟩ : ∃ z,Z.getD i default=z:=⟨_,rfl⟩
   have hzm:z∈Z:=hz ▸ getD_memU hlt
   have hzo:=hoZ z hzm
   have hze:=heZ z hzm
   have htk:altT s.length ((Z.take (i+1)).map (·.T))=orT s.length (altT s.length ((Z.take i).map (·.T))) z.T:=by
    rw [map_take_succ _ _ hlt hz,altT_snoc]
   obtain ⟨B,hB⟩ : ∃ B,altT s.length ((Z.take i).map (·.T))=B:=⟨_,rfl⟩
   rw [hB] at htk hBo
   rw [hB]
   dsimp only [tbox]
   repeat' (first|(rw [hz])|(rw [show encTb z=[.slice z.a z.T.length z.c] from rfl])|((with_reducible apply kx_alloc (E:=69));exact ty_zero;(exact qcl);intro b7;(refine apk ?_))|((with_reducible refine swo_isCall 87 ?_);(refine swo_put (A:=noJ) rfl ?_);(with_reducible apply kx_lendC (A:=TbC a c B));(exact atk);intro r6 g6 hr6 hg6 hA6;((with_reducible apply kx_lend [(b5,.cells [.slice a B.length c].toArray 69 (0,0)),(b7,.cells [.slice z.a z.T.length z.c].toArray 69 (0,0))]);(exact atks);intro r' hl';refine acl Tryz.func87 ?_;refine acr (hea r' (Sx.sub.trans h03 (Sx.sub.trans hr6 hl'.1)) b5 b7 a c B z hBo hzo (tbC_els hA6 (Sx.sub.trans hg6 hl'.1)) (hze.mono (Sx.sub.trans hr6 hl'.1)) (Lent.h1 hl') (Lent.h2 hl')) ?_;rintro v' H' ⟨a9,c9,rfl,rfl⟩;all_goals refine apm ?_))|exact xf|refine aw0 ?_|(refine ap2 ?_ ?_<;>try intro h)|refine aw1 ?_|(refine abx ?_;intro bb)|(refine abz ?_;intro bz)|(refine ahv ?_;intro v' hv')|(refine aac ?_;intro ac cc)|refine aw2 ?_|(refine ap4 ?_ ?_<;>try intro h)|apply True.intro)
   exact ⟨_,by omega,i+1,a9,c9,rfl,by omega,⟨_,by rw [htk];exact atks⟩,asls⟩
 · obtain rfl:i=Z.length:=by omega
   rw [List.take_length] at hBo ⊢
   dsimp only [tbox]
   repeat' (first|exact xf|refine aw0 ?_|(refine ap2 ?_ ?_<;>try intro h)|refine aw1 ?_|(refine abx ?_;intro bb)|(refine abz ?_;intro bz)|(refine ahv ?_;intro v' hv')|(refine aac ?_;intro ac cc)|refine aw2 ?_|(refine ap4 ?_ ?_<;>try intro h)|apply True.intro)
   ((with_reducible apply fp_ret);exact res_1 rfl rfl)
   exact HR.out _ _ _ [TbC a c (altT s.length (Z.map (·.T)))] atks ⟨_,a,c,⟨hBo,altT_sub hZ⟩,rfl,rfl⟩
def moreB (A B:List Nat):Nat->Bool
 | 0=>false
 | i+1=>moreB A B i || !decide (orN (A.getD i 0) (B.getD i 0)=A.getD i 0)
theorem more_some {A B:List Nat} : ∀ {n:Nat},moreB A B n=true -> ∃ i,i<n/\orN (A.getD i 0) (B.getD i 0)≠A.getD i 0
 | 0,h=>by cases h
 | n+1,h=>by
  unfold moreB at h
  rw [Bool.or_eq_true] at h
  rcases h with h|h
  · obtain ⟨i,hi,e⟩:=more_some h
    exact ⟨i,by omega,e⟩
  · exact ⟨n,by omega,by simpa using h⟩
abbrev mbox (b:Nat) (p:Bool):Ch:=pt b (.cells [.bool p].toArray 4 (0,0))
theorem rep1_any (r:Hp) (n:Nat) (hn:n<63) (b6 b7 b9:Nat) (a1 a2:Option Addr) (c1 c2:Nat) (A B:List Nat) (hA:Els r 4 encE (.slice a1 A.length c1) A) (hB:Els r 4 encE (.slice a2 B.length c2) B) (oA:TabOk n A) (oB:TabOk n B) (hb6:r b6=some (tbox b6 a1 c1 A).2) (hb7:r b7=some (tbox b7 a2 c2 B).2) (i:Nat) (hi:i<=n):Tri Tryz.prog r 96 [.int .i64 (i:Nat),.pointer (some ⟨b6,0,none⟩),.pointer (some ⟨b7,0,none⟩),.pointer (some ⟨b9,0,none⟩)] [mbox b9 (moreB A B i)] fun w H=>w = .agg (encE (orN (A.getD i 0) (B.getD i 0))).toArray/\H=[mbox b9 (moreB A B (i+1))]:=by
 have hp : ∀ x,x<2 ^ (n+1)->x<2 ^ 64:=fun x h=>Nat.lt_of_lt_of_le h (Nat.pow_le_pow_right (by omega) (by omega))
 have hei:=either_any r _ _ (hp _ (oA.get i)) (hp _ (oB.get i))
 have lA:=oA.len
 have lB:=oB.len
 have hms:moreB A B (i+1)=(moreB A B i || !decide (orN (A.getD i 0) (B.getD i 0)=A.getD i 0)):=rfl
 rw [hms]
 obtain ⟨m0,hm0⟩ : ∃ m,moreB A B i=m:=⟨_,rfl⟩
 obtain ⟨x,hx⟩ : ∃ x,A.getD i 0=x:=⟨_,rfl⟩
 obtain ⟨y,hy⟩ : ∃ y,B.getD i 0=y:=⟨_,rfl⟩
 rw [hx,hy] at hei
 rw [hm0,hx,hy]
 clear hms hm0
 have hne : ∀ u:Nat,(!(decide ((u:Int)=(x:Int)) && (decide ((0:Int)=0) && (decide ((0:Int)=0) && decide ((0:Int)=0))))) = !decide (u=x):=fun u=>by
  by_cases e:u=x
  · subst e;simp
  · rw [show decide ((u:Int)=(x:Int))=false from decide_eq_false (by omega),show decide (u=x)=false from decide_eq_false e];rfl
 dsimp only [tbox] at hb6 hb7
 cases m0
 · refine Tri.free2 fun R HR=>?_
   refine ae Tryz.func96 Tryz.ntmps96 ?_
   repeat' (first|(rw [getD_def,hx])|(rw [getD_def,hy])|((with_reducible apply kx_alloc (E:=74));exact ty_zero;(exact qcl);intro b5;(refine apk ?_))|((((with_reducible apply sw_drawT (id:=1) 10 (Pl.seg [(0,true),(1,true),(2,true),(3,true),(4,true),(5,true),(6,true),(7,true)] (Pl.two 8 9 (Pl.seg [(9,false)] Pl.leaf) (Pl.seg [(8,false)] Pl.leaf))) (List.replicate 10 true++List.replicate 1 false).toArray [(10,false)] []);kernel_rfl;(exact atks);kernel_rfl;intro r' hl'));have hb6':=hl'.1 _ _ hb6;have hb7':=hl'.1 _ _ hb7;have hA':=hA.mono hl'.1;have hB':=hB.mono hl'.1)|(refine acl Tryz.func95 ?_;refine acr (hei.up hl'.1) ?_;rintro v' H' ⟨rfl,rfl⟩;refine apl ?_)|((with_reducible apply kx_storeN);exact ty_size;rfl;rfl;rfl;(exact qsw);exact encE_one _;(exact qst);(refine apk ?_))|exact xf|refine aw0 ?_|(refine ap2 ?_ ?_<;>try intro h)|refine aw1 ?_|(refine abx ?_;intro bb)|(refine abz ?_;intro bz)|(refine ahv ?_;intro v' hv')|(refine aac ?_;intro ac cc)|refine aw2 ?_|(refine ap4 ?_ ?_<;>try intro h)|apply True.intro)
   all_goals
    repeat' (first|(rw [getD_def,hx])|(rw [hne])|((((with_reducible apply sw_draw (id:=2) 9 [(0,false),(1,true),(2,true),(3,true),(4,true),(5,true),(6,true),(7,true),(8,true)] [(9,false)] [(b5,.cells (encE (orN x y)).toArray 74 (0,0))]);kernel_rfl;(exact atks);kernel_rfl;intro r' hl'));have hb6':=hl'.1 _ _ hb6;have hA':=hA.mono hl'.1)|((with_reducible apply pi_pur);rfl;(exact qwt);(with_reducible apply pu_ldW);rfl;(first|assumption|exact Lent.h1 hl'|exact Lent.h2 hl'|exact Lent.h3 hl');rfl;(refine apk ?_))|((with_reducible apply pi_pur);rfl;(exact qwt);(with_reducible apply (pu_neA (E:=23)));exact Tryz.underlying74;kernel_rfl;kernel_rfl;kernel_rfl;kernel_rfl;rfl;rfl;(refine apk ?_))|((with_reducible apply kx_storeN);exact ty_size;rfl;rfl;rfl;(exact qsw);exact encE_one _;(exact qst);(refine apk ?_))|exact xf|refine aw0 ?_|(refine ap2 ?_ ?_<;>try intro h)|refine aw1 ?_|(refine abx ?_;intro bb)|(refine abz ?_;intro bz)|(refine ahv ?_;intro v' hv')|(refine aac ?_;intro ac cc)|refine aw2 ?_|(refine ap4 ?_ ?_<;>try intro h)|apply True.intro)
    ((with_reducible apply fp_ret);exact res_W rfl rfl atk ty_agg ty_size rfl)
    exact HR.out _ _ _ [mbox b9 (!decide (orN x y=x))] atks ⟨rfl,rfl⟩
 · refine Tri.free2 fun R HR=>?_
   refine ae Tryz.func96 Tryz.ntmps96 ?_
   repeat' (first|(rw [getD_def,hx])|(rw [getD_def,hy])|((with_reducible apply kx_alloc (E:=74));exact ty_zero;(exact qcl);intro b5;(refine apk ?_))|((((with_reducible apply sw_drawT (id:=1) 10 (Pl.seg [(0,true),(1,true),(2,true),(3,true),(4,true),(5,true),(6,true),(7,true)] (Pl.two 8 9 (Pl.seg [(9,false)] Pl.leaf) (Pl.seg [(8,false)] Pl.leaf))) (List.replicate 10 true++List.replicate 1 false).toArray [(10,false)] []);kernel_rfl;(exact atks);kernel_rfl;intro r' hl'));have hb6':=hl'.1 _ _ hb6;have hb7':=hl'.1 _ _ hb7;have hA':=hA.mono hl'.1;have hB':=hB.mono hl'.1)|(refine acl Tryz.func95 ?_;refine acr (hei.up hl'.1) ?_;rintro v' H' ⟨rfl,rfl⟩;refine apl ?_)|((with_reducible apply kx_storeN);exact ty_size;rfl;rfl;rfl;(exact qsw);exact encE_one _;(exact qst);(refine apk ?_))|exact xf|refine aw0 ?_|(refine ap2 ?_ ?_<;>try intro h)|refine aw1 ?_|(refine abx ?_;intro bb)|(refine abz ?_;intro bz)|(refine ahv ?_;intro v' hv')|(refine aac ?_;intro ac cc)|refine aw2 ?_|(refine ap4 ?_ ?_<;>try intro h)|apply True.intro)
   all_goals
    repeat' (first|(rw [getD_def,hx])|(rw [hne])|((((with_reducible apply sw_draw (id:=2) 9 [(0,false),(1,true),(2,true),(3,true),(4,true),(5,true),(6,true),(7,true),(8,true)] [(9,false)] [(b5,.cells (encE (orN x y)).toArray 74 (0,0))]);kernel_rfl;(exact atks);kernel_rfl;intro r' hl'));have hb6':=hl'.1 _ _ hb6;have hA':=hA.mono hl'.1)|((with_reducible apply pi_pur);rfl;(exact qwt);(with_reducible apply pu_ldW);rfl;(first|assumption|exact Lent.h1 hl'|exact Lent.h2 hl'|exact Lent.h3 hl');rfl;(refine apk ?_))|((with_reducible apply pi_pur);rfl;(exact qwt);(with_reducible apply (pu_neA (E:=23)));exact Tryz.underlying74;kernel_rfl;kernel_rfl;kernel_rfl;kernel_rfl;rfl;rfl;(refine apk ?_))|((with_reducible apply kx_storeN);exact ty_size;rfl;rfl;rfl;(exact qsw);exact encE_one _;(exact qst);(refine apk ?_))|exact xf|refine aw0 ?_|(refine ap2 ?_ ?_<;>try intro h)|refine aw1 ?_|(refine abx ?_;intro bb)|(refine abz ?_;intro bz)|(refine ahv ?_;intro v' hv')|(refine aac ?_;intro ac cc)|refine aw2 ?_|(refine ap4 ?_ ?_<;>try intro h)|apply True.intro)
    ((with_reducible apply fp_ret);exact res_W rfl rfl atk ty_agg ty_size rfl)
    exact HR.out _ _ _ [mbox b9 true] atks ⟨rfl,rfl⟩
end Go.Proofs.YteknekiclhnkiaaGreatDoor
