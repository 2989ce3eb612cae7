/- asker's repeat: its contract. -/
import Derived.Test.YteknekiclhnkiaaGreatDoorYz
set_option maxHeartbeats 16000000
set_option maxRecDepth 10000
namespace Go.Proofs.YteknekiclhnkiaaGreatDoor
open Go.RowKit Sx
def repR (s:Tx) (M:Rel) (m0:Nat) (mx:Int):Rel:=fun a b => ∃ c:Nat,(m0:Int)<=(c:Int)/\(mx<0\/(c:Int)<=mx)/\powR s M c a b
def uptoR (s:Tx) (M:Rel) (m0 q:Nat):Rel:=fun a b => ∃ c:Nat,m0<=c/\c<=q/\powR s M c a b
theorem upto_or {s:Tx} {M:Rel} {n m0 q:Nat} {A B:List Nat} (hq:m0<=q) (oA:TabOk n A) (oB:TabOk n B) (hA:SubT A (uptoR s M m0 q)) (hB:SubT B (powR s M (q+1))):SubT (orT n A B) (uptoR s M m0 (q+1)) :=
 orT_sub oA oB (hA.mono fun a b ⟨c,h1,h2,h3⟩=>⟨c,h1,by omega,h3⟩) (hB.mono fun a b h=>⟨q+1,by omega,Nat.le_refl _,h⟩)
theorem or_grows {n:Nat} {A B:List Nat} (oA:TabOk n A) (h:moreB A B (n+1)=true):A.sum<(orT n A B).sum:=by
 obtain ⟨i,hi,hne⟩:=more_some h
 refine sum_more oA ⟨i,hi,?_⟩
 unfold orT
 rw [tabM_get hi]
 exact hne
theorem pow_start {s:Tx} {M:Rel} {n m0:Nat} {K:List Nat} (h:SubT (powT n K m0) (powR s M m0)):SubT (powT n K m0) (uptoR s M m0 m0):=h.mono fun _a _b e=>⟨m0,Nat.le_refl _,Nat.le_refl _,e⟩
theorem repeat_sp (r:Hp) (hT:TabF r) (v:Value) (s:Tx) (hv:U8S r v s) (hs24:s.length<=24) (hv1:one? v=true) (k:Int) (s0 s1 s2 s3:Nat) (kv:Value) (m0:Nat) (mx:Int) (lz:Bool) (gr:Int) (x:NoV) (hl:Els r 10 encN kv [x]) (_hk1:one? kv=true) (hr:NoR r x) (ih:SpT s x) (hm0:m0<=100) (hmx:mx<=100) (hmm:mx = -1\/(m0:Int)<=mx):Tri Tryz.prog r 56 [.agg [v].toArray,.agg [.int .i64 k,.int .u64 s0,.int .u64 s1,.int .u64 s2,.int .u64 s3,kv,.int .i64 (m0:Nat),.int .i64 mx,.bool lz,.int .i64 gr].toArray] [] fun w H => ∃ T a c,(TabOk s.length T/\SubT T (repR s (matN PT s x.key) m0 mx))/\w = .slice a T.length c/\H=[TbC a c T]:=by
 have hs:s.length<=62:=by omega
 have hlm:=maxI hl.2.2.1
 have hll:[x].length=1:=rfl
 have hof:=ih r v hT hr hv hv1
 have hget:[x].getD 0 default=x:=rfl
 have hst:=still_any r v s hv hs hv1
 have hbe : ∀ r' (_:sub r r') bz a c (P K:List Nat) ak ck,TabOk s.length P->TabOk s.length K->Els r' 4 encE (.slice a P.length c) P->Els r' 4 encE (.slice ak K.length ck) K->Tri Tryz.prog r' 92 [.agg [v].toArray,.slice (some ⟨bz,0,none⟩) 2 2] [pt bz (.cells [.slice a P.length c,.slice ak K.length ck].toArray 69 (0,0))] fun w H => ∃ a' c',w = .slice a' (behL s.length [P,K]).length c'/\H=[TbC a' c' (behL s.length [P,K])]:=fun r' hr' bz a c P K ak ck oP oK hP hK=>Tri.frz fun r1 g1 s1 t1 h1=>by
  have hb:r1 bz=some (.cells [.slice a P.length c,.slice ak K.length ck].toArray 69 (0,0)):=t1 _ _ (by rw [show g1=Sx.one bz _ from h1];exact Sx.one_same)
  exact behind_sp r1 (hT.mono (Sx.sub.trans hr' s1)) v s (hv.mono (Sx.sub.trans hr' s1)) hs hv1 _ [⟨a,c,P⟩,⟨ak,ck,K⟩] ⟨fun _=>rfl,Sl.lit (n:=2) hb rfl (by simp [maxLen])⟩ (fun z hz=>by
   rcases List.mem_cons.1 hz with rfl|hz
   · exact hP.mono s1
   · obtain rfl:=List.mem_singleton.1 hz
     exact hK.mono s1) (fun z hz=>by
   rcases List.mem_cons.1 hz with rfl|hz
   · exact oP
   · obtain rfl:=List.mem_singleton.1 hz
     exact oK)
 have hre : ∀ r' (_:sub r r') b6 b7 b9 a c (A:List Nat) a2 c2 (B:List Nat),TabOk s.length A->TabOk s.length B->Els r' 4 encE (.slice a A.length c) A->Els r' 4 encE (.slice a2 B.length c2) B->r' b6=some (tbox b6 a c A).2->r' b7=some (tbox b7 a2 c2 B).2->Tri Tryz.prog r' 87 [v,.func (.func 96) #[] [.pointer (some ⟨b6,0,none⟩),.pointer (some ⟨b7,0,none⟩),.pointer (some ⟨b9,0,none⟩)].toArray] [mbox b9 false] fun w H => ∃ a c,w = .slice a (orT s.length A B).length c/\H=[TbC a c (orT s.length A B),mbox b9 (moreB A B (s.length+1))]:=fun r' hr' b6 b7 b9 a c A a2 c2 B oA oB hA hB h6 h7=>each_any r' v s (hv.mono hr') hs 96 _ (goesOf Tryz.func96 (by kernel_rfl) rfl) (fun i=>mbox b9 (moreB A B i)) (fun i=>A.getD i 0 ||| B.getD i 0) fun i hi=>rep1_any r' s.length (by omega) b6 b7 b9 a a2 c c2 A B hA hB oA oB h6 h7 i hi
 obtain ⟨M,hM⟩ : ∃ M,matN PT s x.key=M:=⟨_,rfl⟩
 rw [hM] at hof ⊢
 clear hM hr ih
 refine Tri.freeI fun R HR=>?_
 refine ae Tryz.func56 Tryz.ntmps56 ?_
 repeat' (first|((with_reducible apply kx_box (v:= .agg [v].toArray));rfl;(exact qcl);intro b2;(refine apk ?_))|((with_reducible apply kx_box (v:= .agg [.int .i64 k,.int .u64 s0,.int .u64 s1,.int .u64 s2,.int .u64 s3,kv,.int .i64 (m0:Nat),.int .i64 mx,.bool lz,.int .i64 gr].toArray));rfl;(exact qcl);intro b3;(refine apk ?_))|(rw [hget])|((((with_reducible apply sw_draw (id:=1) 6 [(0,true),(1,true),(2,true),(3,true),(4,true),(5,false)] [(6,false)] [(b2,(.cells [v].toArray 72 (0,0))),(b3,(.cells [.int .i64 k,.int .u64 s0,.int .u64 s1,.int .u64 s2,.int .u64 s3,kv,.int .i64 (m0:Nat),.int .i64 mx,.bool lz,.int .i64 gr].toArray 28 (0,0)))]);kernel_rfl;(exact atks);kernel_rfl;intro r' hl'));have hl2:=hl.mono hl'.1)|((with_reducible apply pi_pur);rfl;(exact qwt);(with_reducible apply pu_ldP);rfl;(first|assumption|exact Lent.h1 hl'|exact Lent.h2 hl'|exact Lent.h3 hl');(simp only [cut,List.drop_zero,List.take_succ_cons,List.take_zero];rfl);rfl;(refine apk ?_))|((with_reducible apply pi_pur);rfl;(exact qwt);(with_reducible apply pu_ldW);rfl;(first|assumption|exact Lent.h1 hl'|exact Lent.h2 hl'|exact Lent.h3 hl');rfl;(refine apk ?_))|(refine acl Tryz.func32 ?_;refine acr (hof.up hl'.1) ?_;rintro v' H' ⟨K,ak,ck,oK,hKs,rfl,rfl⟩;refine apl ?_)|(refine acl Tryz.func86 ?_;refine acr (hst) ?_;rintro v' H' ⟨a0,c0,rfl,rfl⟩;refine apl ?_)|((with_reducible apply kx_alloc (E:=69));exact ty_zero;(exact qcl);intro b6;(refine apk ?_))|exact xf|refine aw0 ?_|(refine ap2 ?_ ?_<;>try intro h)|refine aw1 ?_|(refine abx ?_;intro bb)|(refine abz ?_;intro bz)|(refine ahv ?_;intro v' hv')|(refine aac ?_;intro ac cc)|refine aw2 ?_|(refine ap4 ?_ ?_<;>try intro h)|apply True.intro)
 have hpo:=powT_ok oK
 have hps:=powT_sub (s:=s) (by omega) oK hKs
 refine sw_loop (fun gm t H' => ∃ (i:Nat) (a:Option Addr) (c:Nat),gm=m0+1 - i/\(i<=m0)/\(∃ G,Takes [pt b2 (.cells [v].toArray 72 (0,0)),pt b3 (.cells [.int .i64 k,.int .u64 s0,.int .u64 s1,.int .u64 s2,.int .u64 s3,kv,.int .i64 (m0:Nat),.int .i64 mx,.bool lz,.int .i64 gr].toArray 28 (0,0)),pt b6 (.cells [.slice a (powT s.length K i).length c].toArray 69 (0,0)),TbC a c (powT s.length K i),TbC ak ck K] H' G)/\Sls t 55 [(2,.pointer (some ⟨b2,0,none⟩)),(3,.pointer (some ⟨b3,0,none⟩)),(5,.slice ak K.length ck),(6,.pointer (some ⟨b6,0,none⟩)),(19,.int .i64 m0),(20,.int .i64 i)]) _ ⟨0,a0,c0,rfl,Nat.zero_le _,⟨_,atks⟩,asls⟩ ?_
 rintro gm t H' ⟨i,a,c,rfl,hi,⟨G,hp⟩,hs'⟩
 revert t;refine sls_all ?_;iterate 49 intro uu'
 refine sw_takeG hp ?_;clear hp
 by_cases hlt:i<m0
 · have hPo:=hpo i
   have hnx:powT s.length K (i+1)=behL s.length [powT s.length K i,K]:=rfl
   obtain ⟨P,hP⟩ : ∃ P,powT s.length K i=P:=⟨_,rfl⟩
   rw [hP] at hPo hnx
   rw [hP]
   repeat' (first|(first|((with_reducible apply kx_bs1);exact ty_el;exact ty_inf;rfl;rfl;rfl;intro bz;(refine apk ?_))|((with_reducible apply kx_bsN);exact ty_el;exact ty_inf;rfl;rfl;rfl;intro bz;(refine apk ?_)))|((with_reducible refine swo_isCall 92 ?_);(with_reducible apply kx_lendC (A:=TbC a c P));(exact atk);intro r6 g6 hr6 hg6 hA6;(with_reducible apply kx_lendC (A:=TbC ak ck K));(exact atk);intro r7 g7 hr7 hg7 hA7;(refine acl Tryz.func92 ?_;refine acr (hbe r7 (Sx.sub.trans hr6 hr7) bz a c P K ak ck hPo oK (tbC_els hA6 (Sx.sub.trans hg6 hr7)) (tbC_els hA7 hg7)) ?_;rintro v' H' ⟨a9,c9,rfl,rfl⟩;refine apl ?_))|exact xf|refine aw0 ?_|(refine ap2 ?_ ?_<;>try intro h)|refine aw1 ?_|(refine abx ?_;intro bb)|(refine abz ?_;intro bz)|(refine ahv ?_;intro v' hv')|(refine aac ?_;intro ac cc)|refine aw2 ?_|(refine ap4 ?_ ?_<;>try intro h)|apply True.intro)
   exact ⟨_,by omega,i+1,a9,c9,rfl,by omega,⟨_,by rw [hnx];exact atks⟩,asls⟩
 · obtain rfl:m0=i:=by omega
   have hPo:=hpo m0
   have hPs:=pow_start (hps m0)
   have hPr:=hps m0
   obtain ⟨P,hP⟩ : ∃ P,powT s.length K m0=P:=⟨_,rfl⟩
   rw [hP] at hPo hPs hPr
   rw [hP]
   clear hP hlt hpo hps
   repeat' (first|((with_reducible apply sw_draw (id:=7) 5 [(0,true),(1,true),(2,true),(3,false),(4,false)] [(5,false)] [(b3,(.cells [.int .i64 k,.int .u64 s0,.int .u64 s1,.int .u64 s2,.int .u64 s3,kv,.int .i64 (m0:Nat),.int .i64 mx,.bool lz,.int .i64 gr].toArray 28 (0,0))),(b6,.cells [.slice a P.length c].toArray 69 (0,0))]);kernel_rfl;(exact atks);kernel_rfl;intro r' hl')|((with_reducible apply pi_pur);rfl;(exact qwt);(with_reducible apply pu_ldP);rfl;(first|assumption|exact Lent.h1 hl'|exact Lent.h2 hl'|exact Lent.h3 hl');(simp only [cut,List.drop_succ_cons,List.drop_zero,List.take_succ_cons,List.take_zero];rfl);rfl;(refine apk ?_))|((with_reducible apply pi_pur);rfl;(exact qwt);(with_reducible apply pu_ldW);rfl;(first|assumption|exact Lent.h1 hl'|exact Lent.h2 hl'|exact Lent.h3 hl');rfl;(refine apk ?_))|((with_reducible apply kx_alloc (E:=69));exact ty_zero;(exact qcl);intro b7;(refine apk ?_))|exact xf|refine aw0 ?_|(refine ap2 ?_ ?_<;>try intro h)|refine aw1 ?_|(refine abx ?_;intro bb)|(refine abz ?_;intro bz)|(refine ahv ?_;intro v' hv')|(refine aac ?_;intro ac cc)|refine aw2 ?_|(refine ap4 ?_ ?_<;>try intro h)|apply True.intro)
   have hpw:(s.length+1)*2 ^ (s.length+1)<=25*2 ^ 25:=Nat.mul_le_mul (by omega) (Nat.pow_le_pow_right (by omega) (by omega))
   have hsum : ∀ {T:List Nat},TabOk s.length T->T.sum<=(s.length+1)*2 ^ (s.length+1):=fun h=>sum_le h
   obtain ⟨MM,hMM⟩ : ∃ MM,(s.length+1)*2 ^ (s.length+1)=MM:=⟨_,rfl⟩
   rw [hMM] at hpw
   simp only [hMM] at hsum
   clear hMM
   by_cases hneg:mx<0
   · refine sw_loop (fun gm t H' => ∃ (q:Nat) (b7:Nat) (a:Option Addr) (c:Nat) (A:List Nat) (a2:Option Addr) (c2:Nat) (B:List Nat) (X:Ch),gm=MM - A.sum/\(m0<=q)/\(q<=m0+A.sum)/\(TabOk s.length A)/\(TabOk s.length B)/\(SubT A (uptoR s M m0 q))/\(SubT B (powR s M q))/\(∀ r' g,sub g r'->X g->Els r' 4 encE (.slice a A.length c) A)/\(∀ r' g,sub g r'->X g->Els r' 4 encE (.slice a2 B.length c2) B)/\(∃ G:Ch,∀ g,X g->all [TbC a c A,G] g)/\(∃ G,Takes [pt b2 (.cells [v].toArray 72 (0,0)),pt b3 (.cells [.int .i64 k,.int .u64 s0,.int .u64 s1,.int .u64 s2,.int .u64 s3,kv,.int .i64 (m0:Nat),.int .i64 mx,.bool lz,.int .i64 gr].toArray 28 (0,0)),pt b6 (.cells [.slice a A.length c].toArray 69 (0,0)),pt b7 (.cells [.slice a2 B.length c2].toArray 69 (0,0)),X,TbC ak ck K] H' G)/\Sls t 55 [(2,.pointer (some ⟨b2,0,none⟩)),(3,.pointer (some ⟨b3,0,none⟩)),(5,.slice ak K.length ck),(6,.pointer (some ⟨b6,0,none⟩)),(7,.pointer (some ⟨b7,0,none⟩)),(8,.int .i64 q)]) _ ⟨m0,b7,a,c,P,a,c,P,TbC a c P,rfl,Nat.le_refl _,Nat.le_add_right _ _,hPo,hPo,hPs,hPr,(fun r' g h e=>tbC_els e h),(fun r' g h e=>tbC_els e h),⟨noJ,fun g e=>all_one.2 e |> fun e=>all_perm (List.Perm.swap _ _ _) (all_emp (A:=noJ) rfl e)⟩,⟨_,atks⟩,asls⟩ ?_
     rintro gm t H' ⟨q,b7,a,c,A,a2,c2,B,X,rfl,hq0,hq1,hAo,hBo,hAs,hBs,hXA,hXB,hXt,⟨G,hp⟩,hs'⟩
     revert t;refine sls_all ?_;iterate 49 intro uu'
     refine sw_takeG hp ?_;clear hp
     have hAl:=hsum hAo
     have hB'o:TabOk s.length (behL s.length [B,K]):=behL_ok fun C hC=>by
      rcases List.mem_cons.1 hC with rfl|hC
      · exact hBo
      · obtain rfl:=List.mem_singleton.1 hC
        exact oK
     have hB's:SubT (behL s.length [B,K]) (powR s M (q+1)):=beh2_sub (by omega) hBo oK hBs hKs
     obtain ⟨B',hB'⟩ : ∃ B',behL s.length [B,K]=B':=⟨_,rfl⟩
     rw [hB'] at hB'o hB's
     have hbe':=fun r' hr' bz=>hbe r' hr' bz a2 c2 B K ak ck hBo oK
     rw [hB'] at hbe'
     have hA'o:=orT_ok hAo hB'o
     have hA's:=upto_or hq0 hAo hB'o hAs hB's
     have hre':=fun r' hr' b6 b7 b9 a c a2 c2=>hre r' hr' b6 b7 b9 a c A a2 c2 B' hAo hB'o
     have hgr:=fun (h:moreB A B' (s.length+1)=true)=>or_grows hAo h
     have hsl:=hsum hA'o
     obtain ⟨A',hA'⟩ : ∃ A',orT s.length A B'=A':=⟨_,rfl⟩
     obtain ⟨p,hp⟩ : ∃ p,moreB A B' (s.length+1)=p:=⟨_,rfl⟩
     rw [hA'] at hA'o hA's hre' hgr hsl
     rw [hp] at hre' hgr
     clear hA' hp hB'
     cases p
     · repeat' (first|(first|((with_reducible apply kx_bs1);exact ty_el;exact ty_inf;rfl;rfl;rfl;intro bz;(refine apk ?_))|((with_reducible apply kx_bsN);exact ty_el;exact ty_inf;rfl;rfl;rfl;intro bz;(refine apk ?_)))|((with_reducible refine swo_isCall 92 ?_);(with_reducible apply kx_lendC (A:=X));(exact atk);intro r6 g6 hr6 hg6 hA6;(with_reducible apply kx_lendC (A:=TbC ak ck K));(exact atk);intro r7 g7 hr7 hg7 hA7;(refine acl Tryz.func92 ?_;refine acr (hbe' r7 (Sx.sub.trans hr6 hr7) bz (hXB r7 g6 (Sx.sub.trans hg6 hr7) hA6) (tbC_els hA7 hg7)) ?_;rintro v' H' ⟨a8,c8,rfl,rfl⟩;refine apl ?_))|((with_reducible apply kx_alloc (E:=4));exact ty_zero;(exact qcl);intro b9;(refine apk ?_))|((with_reducible apply kx_alloc (E:=69));exact ty_zero;(exact qcl);intro b7;(refine apk ?_))|((with_reducible refine swo_isCall 87 ?_);(with_reducible apply kx_lendC (A:=X));(exact atk);intro r6 g6 hr6 hg6 hA6;(with_reducible apply kx_lendC (A:=TbC a8 c8 B'));(exact atk);intro r7 g7 hr7 hg7 hA7;((with_reducible apply kx_lend [(b6,.cells [.slice a A.length c].toArray 69 (0,0)),(b7,.cells [.slice a8 B'.length c8].toArray 69 (0,0))]);(exact atks);intro r' hl';refine acl Tryz.func87 ?_;refine acr (hre' r' (Sx.sub.trans hr6 (Sx.sub.trans hr7 hl'.1)) b6 b7 b9 a c a8 c8 (hXA r' g6 (Sx.sub.trans hg6 (Sx.sub.trans hr7 hl'.1)) hA6) (tbC_els hA7 (Sx.sub.trans hg7 hl'.1)) (Lent.h1 hl') (Lent.h2 hl')) ?_;rintro v' H' ⟨a9,c9,rfl,rfl⟩;all_goals refine apm ?_))|((with_reducible apply sw_joinA (c:= .region 13 _ _) (As:=[TbC a9 c9 A',TbC a8 c8 B']) (D:=all [TbC a9 c9 A',TbC a8 c8 B']));(with_reducible exact atks);(intro h e;exact e))|exact xf|refine aw0 ?_|(refine ap2 ?_ ?_<;>try intro h)|refine aw1 ?_|(refine abx ?_;intro bb)|(refine abz ?_;intro bz)|(refine ahv ?_;intro v' hv')|(refine aac ?_;intro ac cc)|refine aw2 ?_|(refine ap4 ?_ ?_<;>try intro h)|apply True.intro)
       ((with_reducible apply fp_ret);exact res_1 rfl rfl)
       exact HR.out _ _ _ [TbC a9 c9 A'] (takesI (As:=[all [TbC a9 c9 A',TbC a8 c8 B']]) (G2:=[TbC a8 c8 B']) atks fun h e=>all_one.1 e) ⟨A',a9,c9,⟨hA'o,hA's.mono fun a b ⟨c,h1,h2,h3⟩=>⟨c,by omega,.inl hneg,h3⟩⟩,rfl,rfl⟩
     · have hgr:=hgr rfl
       repeat' (first|(first|((with_reducible apply kx_bs1);exact ty_el;exact ty_inf;rfl;rfl;rfl;intro bz;(refine apk ?_))|((with_reducible apply kx_bsN);exact ty_el;exact ty_inf;rfl;rfl;rfl;intro bz;(refine apk ?_)))|((with_reducible refine swo_isCall 92 ?_);(with_reducible apply kx_lendC (A:=X));(exact atk);intro r6 g6 hr6 hg6 hA6;(with_reducible apply kx_lendC (A:=TbC ak ck K));(exact atk);intro r7 g7 hr7 hg7 hA7;(refine acl Tryz.func92 ?_;refine acr (hbe' r7 (Sx.sub.trans hr6 hr7) bz (hXB r7 g6 (Sx.sub.trans hg6 hr7) hA6) (tbC_els hA7 hg7)) ?_;rintro v' H' ⟨a8,c8,rfl,rfl⟩;refine apl ?_))|((with_reducible apply kx_alloc (E:=4));exact ty_zero;(exact qcl);intro b9;(refine apk ?_))|((with_reducible apply kx_alloc (E:=69));exact ty_zero;(exact qcl);intro b7;(refine apk ?_))|((with_reducible refine swo_isCall 87 ?_);(with_reducible apply kx_lendC (A:=X));(exact atk);intro r6 g6 hr6 hg6 hA6;(with_reducible apply kx_lendC (A:=TbC a8 c8 B'));(exact atk);intro r7 g7 hr7 hg7 hA7;((with_reducible apply kx_lend [(b6,.cells [.slice a A.length c].toArray 69 (0,0)),(b7,.cells [.slice a8 B'.length c8].toArray 69 (0,0))]);(exact atks);intro r' hl';refine acl Tryz.func87 ?_;refine acr (hre' r' (Sx.sub.trans hr6 (Sx.sub.trans hr7 hl'.1)) b6 b7 b9 a c a8 c8 (hXA r' g6 (Sx.sub.trans hg6 (Sx.sub.trans hr7 hl'.1)) hA6) (tbC_els hA7 (Sx.sub.trans hg7 hl'.1)) (Lent.h1 hl') (Lent.h2 hl')) ?_;rintro v' H' ⟨a9,c9,rfl,rfl⟩;all_goals refine apm ?_))|((with_reducible apply sw_joinA (c:= .region 13 _ _) (As:=[TbC a9 c9 A',TbC a8 c8 B']) (D:=all [TbC a9 c9 A',TbC a8 c8 B']));(with_reducible exact atks);(intro h e;exact e))|exact xf|refine aw0 ?_|(refine ap2 ?_ ?_<;>try intro h)|refine aw1 ?_|(refine abx ?_;intro bb)|(refine abz ?_;intro bz)|(refine ahv ?_;intro v' hv')|(refine aac ?_;intro ac cc)|refine aw2 ?_|(refine ap4 ?_ ?_<;>try intro h)|apply True.intro)
       exact ⟨_,by omega,q+1,b7,a9,c9,A',a8,c8,B',all [TbC a9 c9 A',TbC a8 c8 B'],rfl,by omega,by omega,hA'o,hB'o,hA's,hB's,(fun r' g h e=>by
        obtain ⟨g1,g2,d,rfl,h1,h2⟩:=e
        exact tbC_els h1 fun b o e=>h b o (un_left e)),(fun r' g h e=>by
        obtain ⟨g1,g2,d,rfl,h1,h2⟩:=e
        exact tbC_els (all_one.1 h2) fun b o e=>h b o (un_right d e)),⟨_,fun g e=>e⟩,⟨_,atks⟩,asls⟩
   · refine sw_loop (fun gm t H' => ∃ (q:Nat) (b7:Nat) (a:Option Addr) (c:Nat) (A:List Nat) (a2:Option Addr) (c2:Nat) (B:List Nat) (X:Ch),gm=mx.toNat - q/\(m0<=q)/\((q:Int)<=mx)/\(TabOk s.length A)/\(TabOk s.length B)/\(SubT A (uptoR s M m0 q))/\(SubT B (powR s M q))/\(∀ r' g,sub g r'->X g->Els r' 4 encE (.slice a A.length c) A)/\(∀ r' g,sub g r'->X g->Els r' 4 encE (.slice a2 B.length c2) B)/\(∃ G:Ch,∀ g,X g->all [TbC a c A,G] g)/\(∃ G,Takes [pt b2 (.cells [v].toArray 72 (0,0)),pt b3 (.cells [.int .i64 k,.int .u64 s0,.int .u64 s1,.int .u64 s2,.int .u64 s3,kv,.int .i64 (m0:Nat),.int .i64 mx,.bool lz,.int .i64 gr].toArray 28 (0,0)),pt b6 (.cells [.slice a A.length c].toArray 69 (0,0)),pt b7 (.cells [.slice a2 B.length c2].toArray 69 (0,0)),X,TbC ak ck K] H' G)/\Sls t 55 [(2,.pointer (some ⟨b2,0,none⟩)),(3,.pointer (some ⟨b3,0,none⟩)),(5,.slice ak K.length ck),(6,.pointer (some ⟨b6,0,none⟩)),(7,.pointer (some ⟨b7,0,none⟩)),(8,.int .i64 q)]) _ ⟨m0,b7,a,c,P,a,c,P,TbC a c P,rfl,Nat.le_refl _,(by omega),hPo,hPo,hPs,hPr,(fun r' g h e=>tbC_els e h),(fun r' g h e=>tbC_els e h),⟨noJ,fun g e=>all_one.2 e |> fun e=>all_perm (List.Perm.swap _ _ _) (all_emp (A:=noJ) rfl e)⟩,⟨_,atks⟩,asls⟩ ?_
     rintro gm t H' ⟨q,b7,a,c,A,a2,c2,B,X,rfl,hq0,hq1,hAo,hBo,hAs,hBs,hXA,hXB,hXt,⟨G,hp⟩,hs'⟩
     revert t;refine sls_all ?_;iterate 49 intro uu'
     refine sw_takeG hp ?_;clear hp
     by_cases hlast:(q:Int)=mx
     · obtain ⟨G,hG⟩:=hXt
       repeat' (first|exact xf|refine aw0 ?_|(refine ap2 ?_ ?_<;>try intro h)|refine aw1 ?_|(refine abx ?_;intro bb)|(refine abz ?_;intro bz)|(refine ahv ?_;intro v' hv')|(refine aac ?_;intro ac cc)|refine aw2 ?_|(refine ap4 ?_ ?_<;>try intro h)|apply True.intro)
       ((with_reducible apply fp_ret);exact res_1 rfl rfl)
       exact HR.out _ _ _ [TbC a c A] (takesI (As:=[X]) (G2:=[G]) atks fun h e=>hG h (all_one.1 e)) ⟨A,a,c,⟨hAo,hAs.mono fun a b ⟨c,h1,h2,h3⟩=>⟨c,by omega,.inr (by omega),h3⟩⟩,rfl,rfl⟩
     · have hB'o:TabOk s.length (behL s.length [B,K]):=behL_ok fun C hC=>by
        rcases List.mem_cons.1 hC with rfl|hC
        · exact hBo
        · obtain rfl:=List.mem_singleton.1 hC
          exact oK
       have hB's:SubT (behL s.length [B,K]) (powR s M (q+1)):=beh2_sub (by omega) hBo oK hBs hKs
       obtain ⟨B',hB'⟩ : ∃ B',behL s.length [B,K]=B':=⟨_,rfl⟩
       rw [hB'] at hB'o hB's
       have hbe':=fun r' hr' bz=>hbe r' hr' bz a2 c2 B K ak ck hBo oK
       rw [hB'] at hbe'
       have hA'o:=orT_ok hAo hB'o
       have hA's:=upto_or hq0 hAo hB'o hAs hB's
       have hre':=fun r' hr' b6 b7 b9 a c a2 c2=>hre r' hr' b6 b7 b9 a c A a2 c2 B' hAo hB'o
       have hgr:=fun (h:moreB A B' (s.length+1)=true)=>or_grows hAo h
       have hsl:=hsum hA'o
       obtain ⟨A',hA'⟩ : ∃ A',orT s.length A B'=A':=⟨_,rfl⟩
       obtain ⟨p,hp⟩ : ∃ p,moreB A B' (s.length+1)=p:=⟨_,rfl⟩
       rw [hA'] at hA'o hA's hre' hgr hsl
       rw [hp] at hre' hgr
       clear hA' hp hB'
       clear hgr
       cases p
       · repeat' (first|(first|((with_reducible apply kx_bs1);exact ty_el;exact ty_inf;rfl;rfl;rfl;intro bz;(refine apk ?_))|((with_reducible apply kx_bsN);exact ty_el;exact ty_inf;rfl;rfl;rfl;intro bz;(refine apk ?_)))|((with_reducible refine swo_isCall 92 ?_);(with_reducible apply kx_lendC (A:=X));(exact atk);intro r6 g6 hr6 hg6 hA6;(with_reducible apply kx_lendC (A:=TbC ak ck K));(exact atk);intro r7 g7 hr7 hg7 hA7;(refine acl Tryz.func92 ?_;refine acr (hbe' r7 (Sx.sub.trans hr6 hr7) bz (hXB r7 g6 (Sx.sub.trans hg6 hr7) hA6) (tbC_els hA7 hg7)) ?_;rintro v' H' ⟨a8,c8,rfl,rfl⟩;refine apl ?_))|((with_reducible apply kx_alloc (E:=4));exact ty_zero;(exact qcl);intro b9;(refine apk ?_))|((with_reducible apply kx_alloc (E:=69));exact ty_zero;(exact qcl);intro b7;(refine apk ?_))|((with_reducible refine swo_isCall 87 ?_);(with_reducible apply kx_lendC (A:=X));(exact atk);intro r6 g6 hr6 hg6 hA6;(with_reducible apply kx_lendC (A:=TbC a8 c8 B'));(exact atk);intro r7 g7 hr7 hg7 hA7;((with_reducible apply kx_lend [(b6,.cells [.slice a A.length c].toArray 69 (0,0)),(b7,.cells [.slice a8 B'.length c8].toArray 69 (0,0))]);(exact atks);intro r' hl';refine acl Tryz.func87 ?_;refine acr (hre' r' (Sx.sub.trans hr6 (Sx.sub.trans hr7 hl'.1)) b6 b7 b9 a c a8 c8 (hXA r' g6 (Sx.sub.trans hg6 (Sx.sub.trans hr7 hl'.1)) hA6) (tbC_els hA7 (Sx.sub.trans hg7 hl'.1)) (Lent.h1 hl') (Lent.h2 hl')) ?_;rintro v' H' ⟨a9,c9,rfl,rfl⟩;all_goals refine apm ?_))|((with_reducible apply sw_joinA (c:= .region 13 _ _) (As:=[TbC a9 c9 A',TbC a8 c8 B']) (D:=all [TbC a9 c9 A',TbC a8 c8 B']));(with_reducible exact atks);(intro h e;exact e))|exact xf|refine aw0 ?_|(refine ap2 ?_ ?_<;>try intro h)|refine aw1 ?_|(refine abx ?_;intro bb)|(refine abz ?_;intro bz)|(refine ahv ?_;intro v' hv')|(refine aac ?_;intro ac cc)|refine aw2 ?_|(refine ap4 ?_ ?_<;>try intro h)|apply True.intro)
         exact ⟨_,by omega,q+1,b7,a9,c9,A',a8,c8,B',all [TbC a9 c9 A',TbC a8 c8 B'],rfl,by omega,by omega,hA'o,hB'o,hA's,hB's,(fun r' g h e=>by
          obtain ⟨g1,g2,d,rfl,h1,h2⟩:=e
          exact tbC_els h1 fun b o e=>h b o (un_left e)),(fun r' g h e=>by
          obtain ⟨g1,g2,d,rfl,h1,h2⟩:=e
          exact tbC_els (all_one.1 h2) fun b o e=>h b o (un_right d e)),⟨_,fun g e=>e⟩,⟨_,atks⟩,asls⟩
       · repeat' (first|(first|((with_reducible apply kx_bs1);exact ty_el;exact ty_inf;rfl;rfl;rfl;intro bz;(refine apk ?_))|((with_reducible apply kx_bsN);exact ty_el;exact ty_inf;rfl;rfl;rfl;intro bz;(refine apk ?_)))|((with_reducible refine swo_isCall 92 ?_);(with_reducible apply kx_lendC (A:=X));(exact atk);intro r6 g6 hr6 hg6 hA6;(with_reducible apply kx_lendC (A:=TbC ak ck K));(exact atk);intro r7 g7 hr7 hg7 hA7;(refine acl Tryz.func92 ?_;refine acr (hbe' r7 (Sx.sub.trans hr6 hr7) bz (hXB r7 g6 (Sx.sub.trans hg6 hr7) hA6) (tbC_els hA7 hg7)) ?_;rintro v' H' ⟨a8,c8,rfl,rfl⟩;refine apl ?_))|((with_reducible apply kx_alloc (E:=4));exact ty_zero;(exact qcl);intro b9;(refine apk ?_))|((with_reducible apply kx_alloc (E:=69));exact ty_zero;(exact qcl);intro b7;(refine apk ?_))|((with_reducible refine swo_isCall 87 ?_);(with_reducible apply kx_lendC (A:=X));(exact atk);intro r6 g6 hr6 hg6 hA6;(with_reducible apply kx_lendC (A:=TbC a8 c8 B'));(exact atk);intro r7 g7 hr7 hg7 hA7;((with_reducible apply kx_lend [(b6,.cells [.slice a A.length c].toArray 69 (0,0)),(b7,.cells [.slice a8 B'.length c8].toArray 69 (0,0))]);(exact atks);intro r' hl';refine acl Tryz.func87 ?_;refine acr (hre' r' (Sx.sub.trans hr6 (Sx.sub.trans hr7 hl'.1)) b6 b7 b9 a c a8 c8 (hXA r' g6 (Sx.sub.trans hg6 (Sx.sub.trans hr7 hl'.1)) hA6) (tbC_els hA7 (Sx.sub.trans hg7 hl'.1)) (Lent.h1 hl') (Lent.h2 hl')) ?_;rintro v' H' ⟨a9,c9,rfl,rfl⟩;all_goals refine apm ?_))|((with_reducible apply sw_joinA (c:= .region 13 _ _) (As:=[TbC a9 c9 A',TbC a8 c8 B']) (D:=all [TbC a9 c9 A',TbC a8 c8 B']));(with_reducible exact atks);(intro h e;exact e))|exact xf|refine aw0 ?_|(refine ap2 ?_ ?_<;>try intro h)|refine aw1 ?_|(refine abx ?_;intro bb)|(refine abz ?_;intro bz)|(refine ahv ?_;intro v' hv')|(refine aac ?_;intro ac cc)|refine aw2 ?_|(refine ap4 ?_ ?_<;>try intro h)|apply True.intro)
         exact ⟨_,by omega,q+1,b7,a9,c9,A',a8,c8,B',all [TbC a9 c9 A',TbC a8 c8 B'],rfl,by omega,by omega,hA'o,hB'o,hA's,hB's,(fun r' g h e=>by
          obtain ⟨g1,g2,d,rfl,h1,h2⟩:=e
          exact tbC_els h1 fun b o e=>h b o (un_left e)),(fun r' g h e=>by
          obtain ⟨g1,g2,d,rfl,h1,h2⟩:=e
          exact tbC_els (all_one.1 h2) fun b o e=>h b o (un_right d e)),⟨_,fun g e=>e⟩,⟨_,atks⟩,asls⟩
end Go.Proofs.YteknekiclhnkiaaGreatDoor
