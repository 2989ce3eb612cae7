/- know.Closed, small, fixed, settled: their contracts. -/
import Derived.Test.YteknekiclhnkiaaGreatDoorOc
set_option maxHeartbeats 4000000
set_option maxRecDepth 10000
namespace Go.Proofs.YteknekiclhnkiaaGreatDoor
open Go.RowKit Sx
structure InfV where
 known:Bool
 ea:Option Addr
 ec:Nat
 ex:List Tx
 pa:Option Addr
 pc:Nat
 pre:List Tx
 sa:Option Addr
 sc:Nat
 suf:List Tx
 q:QuV
namespace InfV
def key (i:InfV):InfK:=⟨i.known,i.ex,i.pre,i.suf,i.q.key⟩
end InfV
structure InfR (r:Hp) (i:InfV):Prop where
 ex:Els r 1 encTx (.slice i.ea i.ex.length i.ec) i.ex
 pre:Els r 1 encTx (.slice i.pa i.pre.length i.pc) i.pre
 suf:Els r 1 encTx (.slice i.sa i.suf.length i.sc) i.suf
 q:QuR r i.q
theorem InfR.mono {r r':Hp} {i:InfV} (h:InfR r i) (hr:sub r r'):InfR r' i:=⟨h.ex.mono hr,h.pre.mono hr,h.suf.mono hr,h.q.mono hr⟩
def IC (r:Hp) (i:InfV):Ch:=fun g => ∀ r',sub r r'->sub g r'->InfR r' i
def OwnI (i:InfV):Ch:=all [TxC i.ea i.ec i.ex,TxC i.pa i.pc i.pre,TxC i.sa i.sc i.suf,OwnQ i.q]
theorem ownI_read {i:InfV} {r g:Hp} (h:OwnI i g) (hs:sub g r):InfR r i:=by
 obtain ⟨g1,k1,d1,rfl,h1,g2,k2,d2,rfl,h2,g3,k3,d3,rfl,h3,h4⟩:=h
 have h4:=all_one.1 h4
 have s1:sub _ r:=fun b o e=>hs b o (un_right d1 e)
 have s2:sub _ r:=fun b o e=>s1 b o (un_right d2 e)
 exact ⟨txC_els h1 fun b o e=>hs b o (un_left e),txC_els h2 fun b o e=>s1 b o (un_left e),txC_els h3 fun b o e=>s2 b o (un_left e),own_read h4 fun b o e=>s2 b o (un_right d3 e)⟩
theorem encI_one {i:InfV} (h:(encQ i.q).all one?=true):([.bool i.known,.slice i.ea i.ex.length i.ec,.slice i.pa i.pre.length i.pc,.slice i.sa i.suf.length i.sc,.int .i64 i.q.kind,i.q.gv,i.q.sv]:List Value).all one?=true:=by
 have h':([.int .i64 i.q.kind,i.q.gv,i.q.sv]:List Value).all one?=true:=h
 simp only [List.all_cons,Bool.and_eq_true] at h' ⊢
 exact ⟨rfl,rfl,rfl,rfl,h'⟩
structure FitI (i:InfK):Prop where
 ex:sizeT i.ex<=100000
 pre:sizeT i.pre<=100000
 suf:sizeT i.suf<=100000
 m:sizeQ i.m<=6000000
 right:rightQ i.m=true
theorem sizeT_row (l:List Tx):sizeT (rowT l)<=sizeT l:=by
 have:=sizeT_fold l []
 simp only [sizeT] at this
 exact Nat.le_trans this (by omega)
theorem loose_unk {i:InfK} (h:i.known=false):looseK i=⟨false,[],rowT i.pre,rowT i.suf,i.m⟩:=by unfold looseK;rw [h];rfl
theorem loose_kn {i:InfK} (h:i.known=true):looseK i=⟨false,[],rowT i.ex,rowT i.ex,andQ [i.m,gramsRow i.ex]⟩:=by unfold looseK;rw [h];rfl
theorem loose_fit {i:InfK} (h:FitI i):sizeT (looseK i).pre<=100000/\sizeT (looseK i).suf<=100000/\sizeQ (looseK i).m<=sizeQ i.m+400002/\rightQ (looseK i).m=true/\(looseK i).known=false/\(looseK i).ex=[]:=by
 cases hk:i.known
 · rw [loose_unk hk]
   exact ⟨Nat.le_trans (sizeT_row _) h.pre,Nat.le_trans (sizeT_row _) h.suf,Nat.le_add_right _ _,h.right,rfl,rfl⟩
 · rw [loose_kn hk]
   have h1:=size_andQ [i.m,gramsRow i.ex]
   have h2:=size_gramsRow i.ex
   have h3:=h.ex
   simp only [sizeQs] at h1
   refine ⟨Nat.le_trans (sizeT_row _) h3,Nat.le_trans (sizeT_row _) h3,by dsimp only;omega,right_andQ (right_two h.right (right_gramsRow _)),rfl,rfl⟩
theorem and2_any (r:Hp) (hT:TabR r) (bz:Nat) (p q:QuV) (hp:QuR r p) (hq:QuR r q) (h:r bz=some (.cells [.int .i64 p.kind,p.gv,p.sv,.int .i64 q.kind,q.gv,q.sv].toArray 38 (0,0))) (h1:rightQ p.key=true) (h2:rightQ q.key=true) (hs:sizeQ p.key+sizeQ q.key<=8000000):Tri Tryz.prog r 37 [.slice (some ⟨bz,0,none⟩) 2 2] [] fun w H => ∃ u:QuV,u.key=andQ [p.key,q.key]/\(encQ u).all one?=true/\w = .agg [.int .i64 u.kind,u.gv,u.sv].toArray/\H=[OwnQ u]:=by
 have hc:=andLit_any r hT (n:=2) [p,q] h rfl rfl (by omega) (two_read hp hq) (by rw [List.map_cons,List.map_singleton];exact right_two h1 h2) (by rw [List.map_cons,List.map_singleton];simp only [sizeQs];omega)
 exact hc
theorem right_three {a b c:Qu} (ha:rightQ a=true) (hb:rightQ b=true) (hc:rightQ c=true):Right [a,b,c]:=fun q hq=>by
 rcases List.mem_cons.1 hq with rfl|hq
 · exact ha
 · exact right_two hb hc q hq
theorem three_read {r:Hp} {a b c:QuV} (ha:QuR r a) (hb:QuR r b) (hc:QuR r c) : ∀ q∈[a,b,c],QuR r q:=fun q hq=>by
 rcases List.mem_cons.1 hq with rfl|hq
 · exact ha
 · exact two_read hb hc q hq
theorem and3_any (r:Hp) (hT:TabR r) (bz:Nat) (p q s:QuV) (hp:QuR r p) (hq:QuR r q) (hs:QuR r s) (h:r bz=some (.cells [.int .i64 p.kind,p.gv,p.sv,.int .i64 q.kind,q.gv,q.sv,.int .i64 s.kind,s.gv,s.sv].toArray 38 (0,0))) (h1:rightQ p.key=true) (h2:rightQ q.key=true) (h3:rightQ s.key=true) (hz:sizeQ p.key+sizeQ q.key+sizeQ s.key<=8000000):Tri Tryz.prog r 37 [.slice (some ⟨bz,0,none⟩) 3 3] [] fun w H => ∃ u:QuV,u.key=andQ [p.key,q.key,s.key]/\(encQ u).all one?=true/\w = .agg [.int .i64 u.kind,u.gv,u.sv].toArray/\H=[OwnQ u]:=by
 have hc:=andLit_any r hT (n:=3) [p,q,s] h rfl rfl (by omega) (three_read hp hq hs) (by rw [List.map_cons,List.map_cons,List.map_singleton];exact right_three h1 h2 h3) (by rw [List.map_cons,List.map_cons,List.map_singleton];simp only [sizeQs];omega)
 exact hc
abbrev ibox (b:Nat) (i:InfV):Ch:=pt b (.cells [.bool i.known,.slice i.ea i.ex.length i.ec,.slice i.pa i.pre.length i.pc,.slice i.sa i.suf.length i.sc,.int .i64 i.q.kind,i.q.gv,i.q.sv].toArray 40 (0,0))
theorem looseU_any (r:Hp) (i:InfV) (hi:InfR r i) (hf:FitI i.key) (ho:(encQ i.q).all one?=true) (hk:i.known=false):Tri Tryz.prog r 36 [.agg [.bool i.known,.slice i.ea i.ex.length i.ec,.slice i.pa i.pre.length i.pc,.slice i.sa i.suf.length i.sc,.int .i64 i.q.kind,i.q.gv,i.q.sv].toArray] [] fun w H => ∃ a1 c1 a2 c2,w = .agg [.bool false,.slice none 0 0,.slice a1 (rowT i.pre).length c1,.slice a2 (rowT i.suf).length c2,.int .i64 i.q.kind,i.q.gv,i.q.sv].toArray/\H=[TxC a1 c1 (rowT i.pre),TxC a2 c2 (rowT i.suf)]:=by
 have hl1:=sizeT_len i.pre
 have hl2:=sizeT_len i.suf
 have hb1:=hf.pre
 have hb2:=hf.suf
 dsimp only [InfV.key] at hb1 hb2
 have hr1:=row_any r _ i.pre hi.pre (by omega)
 have hr2:=row_any r _ i.suf hi.suf (by omega)
 obtain ⟨P,hP⟩ : ∃ P,rowT i.pre=P:=⟨_,rfl⟩
 obtain ⟨S,hS⟩ : ∃ S,rowT i.suf=S:=⟨_,rfl⟩
 rw [hP] at hr1 ⊢
 rw [hS] at hr2 ⊢
 obtain ⟨known,ea,ec,ex,pa,pc,pre,sa,sc,suf,q⟩:=i
 dsimp only at hk ho hr1 hr2 ⊢
 subst hk
 have h7 : ∀ a1 n1 c1 a2 n2 c2,([.bool false,.slice none 0 0,.slice a1 n1 c1,.slice a2 n2 c2,.int .i64 q.kind,q.gv,q.sv]:List Value).all one?=true:=fun a1 n1 c1 a2 n2 c2=>by
  have h':=one3 ho
  simp only [List.all_cons,Bool.and_eq_true] at h' ⊢
  exact ⟨rfl,rfl,rfl,rfl,h'⟩
 clear hi hf hb1 hb2 hl1 hl2 hP hS
 refine Tri.free2 fun R HR=>?_
 refine ae Tryz.func36 Tryz.ntmps36 ?_
 repeat' (first|((with_reducible apply kx_box);rfl;(exact qcl);intro b1;(refine apk ?_))|((with_reducible apply kx_alloc (E:=40));exact ty_zero;(exact qcl);intro b2;(refine apk ?_))|((with_reducible apply sw_draw (id:=2) 9 [(0,true),(1,true),(3,true),(4,true),(6,true),(7,true),(2,false),(5,false),(8,true)] [(9,false)] [(b1,.cells [.bool false,.slice ea ex.length ec,.slice pa pre.length pc,.slice sa suf.length sc,.int .i64 q.kind,q.gv,q.sv].toArray 40 (0,0))]);kernel_rfl;(exact atks);kernel_rfl;intro r' hl')|((with_reducible apply pi_pur);rfl;(exact qwt);(with_reducible apply pu_ldP);rfl;(first|assumption|exact Lent.h1 hl'|exact Lent.h2 hl'|exact Lent.h3 hl');(simp only [cut,List.drop_succ_cons,List.drop_zero,List.take_succ_cons,List.take_zero];rfl);rfl;(refine apk ?_))|((with_reducible refine swo_isCall 48 ?_);(first|(refine acl Tryz.func48 ?_;refine acr (hr1.up hl'.1) ?_;rintro v' H' ⟨a1,c1,rfl,rfl⟩;refine apl ?_)|(refine acl Tryz.func48 ?_;refine acr (hr2.up hl'.1) ?_;rintro v' H' ⟨a2,c2,rfl,rfl⟩;refine apl ?_)))|((with_reducible apply kx_storeN);exact ty_size;rfl;rfl;rfl;(exact qsw);exact h7 _ _ _ _ _ _;(exact qst);(refine apk ?_))|exact xf|refine aw0 ?_|(refine ap2 ?_ ?_<;>try intro h)|refine aw1 ?_|(refine abx ?_;intro bb)|(refine abz ?_;intro bz)|(refine ahv ?_;intro v' hv')|(refine aac ?_;intro ac cc)|refine aw2 ?_|(refine ap4 ?_ ?_<;>try intro h)|apply True.intro)
 ((with_reducible apply fp_ret);exact res_W rfl rfl atk ty_agg ty_size rfl)
 exact HR.out _ _ _ [TxC a1 c1 P,TxC a2 c2 S] atks ⟨a1,c1,a2,c2,rfl,rfl⟩
theorem looseK_any (r:Hp) (hT:TabR r) (i:InfV) (hi:InfR r i) (hf:FitI i.key) (hk:i.known=true):Tri Tryz.prog r 36 [.agg [.bool i.known,.slice i.ea i.ex.length i.ec,.slice i.pa i.pre.length i.pc,.slice i.sa i.suf.length i.sc,.int .i64 i.q.kind,i.q.gv,i.q.sv].toArray] [] fun w H => ∃ a1 c1 a2 c2,∃ q':QuV,q'.key=andQ [i.q.key,gramsRow i.ex]/\(encQ q').all one?=true/\w = .agg [.bool false,.slice none 0 0,.slice a1 (rowT i.ex).length c1,.slice a2 (rowT i.ex).length c2,.int .i64 q'.kind,q'.gv,q'.sv].toArray/\H=[TxC a1 c1 (rowT i.ex),TxC a2 c2 (rowT i.ex),OwnQ q']:=by
 have hl1:=sizeT_len i.ex
 have hb1:=hf.ex
 have hbm:=hf.m
 have hri:=hf.right
 dsimp only [InfV.key] at hb1 hbm hri
 have hr1:=row_any r _ i.ex hi.ex (by omega)
 have hgr:=kgrams_any r hT _ i.ex hi.ex (by omega)
 have hsz:=size_gramsRow i.ex
 have han : ∀ r' bz g2 (q2:QuV),sub r r'->q2.key=gramsRow i.ex->OwnQ q2 g2->sub g2 r'->r' bz=some (.cells [.int .i64 i.q.kind,i.q.gv,i.q.sv,.int .i64 q2.kind,q2.gv,q2.sv].toArray 38 (0,0))->Tri Tryz.prog r' 37 [.slice (some ⟨bz,0,none⟩) 2 2] [] fun w H => ∃ u:QuV,u.key=andQ [i.q.key,gramsRow i.ex]/\(encQ u).all one?=true/\w = .agg [.int .i64 u.kind,u.gv,u.sv].toArray/\H=[OwnQ u]:=fun r' bz g2 q2 h1 h2 h3 h4 h5=>by
  have h:=and2_any r' (hT.mono h1) bz i.q q2 (hi.q.mono h1) (own_read h3 h4) h5 hri (by rw [h2];exact right_gramsRow _) (by rw [h2];omega)
  rw [h2] at h
  exact h
 obtain ⟨P,hP⟩ : ∃ P,rowT i.ex=P:=⟨_,rfl⟩
 rw [hP] at hr1 ⊢
 obtain ⟨known,ea,ec,ex,pa,pc,pre,sa,sc,suf,q⟩:=i
 dsimp only at hk hr1 hgr han ⊢
 obtain ⟨Z,hZ⟩ : ∃ Z,gramsRow ex=Z:=⟨_,rfl⟩
 rw [hZ] at hgr han ⊢
 subst hk
 have h7 : ∀ a1 n1 c1 a2 n2 c2 (q:QuV),(encQ q).all one?=true->([.bool false,.slice none 0 0,.slice a1 n1 c1,.slice a2 n2 c2,.int .i64 q.kind,q.gv,q.sv]:List Value).all one?=true:=fun a1 n1 c1 a2 n2 c2 q ho=>by
  have h':=one3 ho
  simp only [List.all_cons,Bool.and_eq_true] at h' ⊢
  exact ⟨rfl,rfl,rfl,rfl,h'⟩
 clear hi hf hb1 hl1 hP hsz hbm hri
 refine Tri.free2 fun R HR=>?_
 refine ae Tryz.func36 Tryz.ntmps36 ?_
 repeat' (first|((with_reducible apply pi_pur);rfl;(exact qwt);(with_reducible apply pu_ldP);rfl;(first|assumption|exact Lent.h1 hl'|exact Lent.h2 hl'|exact Lent.h3 hl');(simp only [cut,List.drop_succ_cons,List.drop_zero,List.take_succ_cons,List.take_zero];rfl);rfl;(refine apk ?_))|((with_reducible apply kx_box);rfl;(exact qcl);intro b1;(refine apk ?_))|((with_reducible apply kx_alloc (E:=40));exact ty_zero;(exact qcl);intro b2;(refine apk ?_))|((((with_reducible apply sw_draw (id:=3) 14 [(0,true),(1,true),(3,true),(4,true),(6,true),(7,true),(8,true),(9,true),(2,false),(5,false),(10,false),(11,false),(12,false),(13,true)] [(14,false)] [(b1,.cells [.bool true,.slice ea ex.length ec,.slice pa pre.length pc,.slice sa suf.length sc,.int .i64 q.kind,q.gv,q.sv].toArray 40 (0,0))]);kernel_rfl;(exact atks);kernel_rfl;intro r' hl'));have hrA:=hr1.up hl'.1;have hrB:=hr1.up hl'.1)|(refine acl Tryz.func48 ?_;refine acr (hrA) ?_;rintro v' H' ⟨a1,c1,rfl,rfl⟩;clear hrA;all_goals refine apl ?_)|(refine acl Tryz.func48 ?_;refine acr (hrB) ?_;rintro v' H' ⟨a2,c2,rfl,rfl⟩;clear hrB;all_goals refine apl ?_)|(refine acl Tryz.func38 ?_;refine acr (hgr.up hl'.1) ?_;rintro v' H' ⟨q2,hq21,hq22,rfl,rfl⟩;refine apl ?_)|(first|((with_reducible apply kx_bs1);exact ty_el;exact ty_inf;rfl;rfl;rfl;intro bz;(refine apk ?_))|((with_reducible apply kx_bsN);exact ty_el;exact ty_inf;rfl;rfl;rfl;intro bz;(refine apk ?_)))|((with_reducible refine swo_isCall 37 ?_);(with_reducible apply kx_lendC (A:=OwnQ q2));(exact atk);intro r2 g2 hr2 hg2 hA2;(with_reducible apply kx_lend [(bz,.cells [.int .i64 q.kind,q.gv,q.sv,.int .i64 q2.kind,q2.gv,q2.sv].toArray 38 (0,0))]);(exact atks);intro r5 hl5;(refine acl Tryz.func37 ?_;refine acr (han r5 bz g2 q2 (Sx.sub.trans hl'.1 (Sx.sub.trans hr2 hl5.1)) hq21 hA2 (fun b o e=>hl5.1 b o (hg2 b o e)) (Lent.h1 hl5)) ?_;rintro v' H' ⟨q3,hq31,hq32,rfl,rfl⟩;refine apl ?_))|((with_reducible apply kx_storeN);exact ty_size;rfl;rfl;rfl;(exact qsw);exact h7 _ _ _ _ _ _ _ hq32;(exact qst);(refine apk ?_))|exact xf|refine aw0 ?_|(refine ap2 ?_ ?_<;>try intro h)|refine aw1 ?_|(refine abx ?_;intro bb)|(refine abz ?_;intro bz)|(refine ahv ?_;intro v' hv')|(refine aac ?_;intro ac cc)|refine aw2 ?_|(refine ap4 ?_ ?_<;>try intro h)|apply True.intro)
 ((with_reducible apply fp_ret);exact res_W rfl rfl atk ty_agg ty_size rfl)
 exact HR.out _ _ _ [TxC a1 c1 P,TxC a2 c2 P,OwnQ q3] atks ⟨a1,c1,a2,c2,q3,hq31,hq32,rfl,rfl⟩
theorem els_nilT (r:Hp):Els r 1 encTx (.slice none 0 0) ([]:List Tx):=⟨fun _=>rfl,rfl,Nat.zero_le _,.inl ⟨⟨none,rfl⟩,rfl⟩⟩
theorem loose_any (r:Hp) (hT:TabR r) (i:InfV) (hi:InfR r i) (hf:FitI i.key) (ho:(encQ i.q).all one?=true):Tri Tryz.prog r 36 [.agg [.bool i.known,.slice i.ea i.ex.length i.ec,.slice i.pa i.pre.length i.pc,.slice i.sa i.suf.length i.sc,.int .i64 i.q.kind,i.q.gv,i.q.sv].toArray] [] fun w H => ∃ i':InfV,i'.key=looseK i.key/\(i'.ea=none/\i'.ec=0)/\(encQ i'.q).all one?=true/\w = .agg [.bool i'.known,.slice i'.ea i'.ex.length i'.ec,.slice i'.pa i'.pre.length i'.pc,.slice i'.sa i'.suf.length i'.sc,.int .i64 i'.q.kind,i'.q.gv,i'.q.sv].toArray/\H=[IC r i']:=by
 rcases Bool.eq_false_or_eq_true i.known with hk|hk
 rotate_left
 · refine tri_cv (looseU_any r i hi hf ho hk) ?_
   rintro w H ⟨a1,c1,a2,c2,rfl,rfl⟩
   refine ⟨_,⟨⟨false,none,0,[],a1,c1,rowT i.pre,a2,c2,rowT i.suf,i.q⟩,(loose_unk (i:=i.key) hk).symm,⟨rfl,rfl⟩,ho,rfl,rfl⟩,fun g h=>?_⟩
   obtain ⟨g1,k1,d1,rfl,h1,g2,k2,d2,rfl,h2,_⟩:=h
   exact all_one.2 fun r' s1 s2=>⟨els_nilT r',txC_els h1 fun b o e=>s2 b o (un_left e),txC_els h2 fun b o e=>s2 b o (un_right d1 (un_left e)),hi.q.mono s1⟩
 · refine tri_cv (looseK_any r hT i hi hf hk) ?_
   rintro w H ⟨a1,c1,a2,c2,q',hq,ho',rfl,rfl⟩
   refine ⟨_,⟨⟨false,none,0,[],a1,c1,rowT i.ex,a2,c2,rowT i.ex,q'⟩,?_,⟨rfl,rfl⟩,ho',rfl,rfl⟩,fun g h=>?_⟩
   · rw [loose_kn (i:=i.key) hk]
     show InfK.mk _ _ _ _ _=_
     rw [hq];rfl
   · obtain ⟨g1,k1,d1,rfl,h1,g2,k2,d2,rfl,h2,g3,k3,d3,rfl,h3,_⟩:=h
     exact all_one.2 fun r' s1 s2=>⟨els_nilT r',txC_els h1 fun b o e=>s2 b o (un_left e),txC_els h2 fun b o e=>s2 b o (un_right d1 (un_left e)),own_read h3 fun b o e=>s2 b o (un_right d1 (un_right d2 (un_left e)))⟩
end Go.Proofs.YteknekiclhnkiaaGreatDoor
namespace Go.Proofs.YteknekiclhnkiaaGreatDoor
open Go.RowKit Sx
theorem closed_any (r:Hp) (hT:TabR r) (i:InfV) (hi:InfR r i) (hf:FitI i.key) (ho:(encQ i.q).all one?=true):Tri Tryz.prog r 15 [.agg [.bool i.known,.slice i.ea i.ex.length i.ec,.slice i.pa i.pre.length i.pc,.slice i.sa i.suf.length i.sc,.int .i64 i.q.kind,i.q.gv,i.q.sv].toArray] [] fun w H => ∃ q:QuV,q.key=closedK i.key/\(encQ q).all one?=true/\w = .agg [.int .i64 q.kind,q.gv,q.sv].toArray/\H=[OwnQ q]:=by
 obtain ⟨f1,f2,f3,f4,f5,f6⟩:=loose_fit hf
 have f7:=hf.m
 have hlo:=loose_any r hT i hi hf ho
 obtain ⟨L,hL⟩ : ∃ L,looseK i.key=L:=⟨_,rfl⟩
 have hcl:closedK i.key=andQ [L.m,gramsRow L.pre,gramsRow L.suf]:=by unfold closedK;rw [hL]
 rw [hL] at f1 f2 f3 f4 f5 f6 hlo
 have hz1:=size_gramsRow L.pre
 have hz2:=size_gramsRow L.suf
 have hga : ∀ r' g (i':InfV),i'.key=L->sub r r'->IC r i' g->sub g r'->Tri Tryz.prog r' 38 [.slice i'.pa i'.pre.length i'.pc] [] fun w H => ∃ q:QuV,q.key=gramsRow L.pre/\(encQ q).all one?=true/\w = .agg [.int .i64 q.kind,q.gv,q.sv].toArray/\H=[OwnQ q]:=fun r' g i' hk s1 h1 s2=>by
  have h:=kgrams_any r' (hT.mono s1) _ i'.pre (h1 r' s1 s2).pre (by rw [← hk] at f1;exact Nat.le_trans f1 (by omega))
  rw [← hk];exact h
 have hgb : ∀ r' g (i':InfV),i'.key=L->sub r r'->IC r i' g->sub g r'->Tri Tryz.prog r' 38 [.slice i'.sa i'.suf.length i'.sc] [] fun w H => ∃ q:QuV,q.key=gramsRow L.suf/\(encQ q).all one?=true/\w = .agg [.int .i64 q.kind,q.gv,q.sv].toArray/\H=[OwnQ q]:=fun r' g i' hk s1 h1 s2=>by
  have h:=kgrams_any r' (hT.mono s1) _ i'.suf (h1 r' s1 s2).suf (by rw [← hk] at f2;exact Nat.le_trans f2 (by omega))
  rw [← hk];exact h
 have han : ∀ r' bz g g1 g2 (i':InfV) (q1 q2:QuV),i'.key=L->q1.key=gramsRow L.pre->q2.key=gramsRow L.suf->sub r r'->IC r i' g->sub g r'->OwnQ q1 g1->sub g1 r'->OwnQ q2 g2->sub g2 r'->r' bz=some (.cells [.int .i64 i'.q.kind,i'.q.gv,i'.q.sv,.int .i64 q1.kind,q1.gv,q1.sv,.int .i64 q2.kind,q2.gv,q2.sv].toArray 38 (0,0))->Tri Tryz.prog r' 37 [.slice (some ⟨bz,0,none⟩) 3 3] [] fun w H => ∃ u:QuV,u.key=closedK i.key/\(encQ u).all one?=true/\w = .agg [.int .i64 u.kind,u.gv,u.sv].toArray/\H=[OwnQ u]:=fun r' bz g g1 g2 i' q1 q2 k k1 k2 s1 h1 s2 h3 s3 h4 s4 h5=>by
  have hm:i'.q.key=L.m:=by rw [← k];rfl
  have h:=and3_any r' (hT.mono s1) bz i'.q q1 q2 (h1 r' s1 s2).q (own_read h3 s3) (own_read h4 s4) h5 (by rw [hm];exact f4) (by rw [k1];exact right_gramsRow _) (by rw [k2];exact right_gramsRow _) (by
   rw [hm,k1,k2]
   have:sizeQ i.key.m<=6000000:=f7
   omega)
  rw [hm,k1,k2,← hcl] at h
  exact h
 obtain ⟨Z,hZ⟩ : ∃ Z,closedK i.key=Z:=⟨_,rfl⟩
 rw [hZ] at han ⊢
 clear f1 f2 f3 f4 f5 f6 f7 hz1 hz2 hcl hL
 refine Tri.free2 fun R HR=>?_
 refine ae Tryz.func15 Tryz.ntmps15 ?_
 repeat' (first|((with_reducible apply pi_pur);rfl;(exact qwt);(with_reducible apply pu_ldP);rfl;(first|assumption|exact Lent.h1 hl'|exact Lent.h2 hl'|exact Lent.h3 hl');(simp only [cut,List.drop_succ_cons,List.drop_zero,List.take_succ_cons,List.take_zero];rfl);rfl;(refine apk ?_))|((with_reducible apply kx_box);rfl;(exact qcl);intro b1;(refine apk ?_))|((with_reducible apply kx_alloc (E:=38));exact ty_zero;(exact qcl);intro b2;(refine apk ?_))|(refine acl Tryz.func36 ?_;refine acr (hlo) ?_;rintro v' H' ⟨i',hik,hiz,hio,rfl,rfl⟩;refine apl ?_)|((with_reducible apply kx_storeN);exact ty_size;rfl;rfl;rfl;(exact qsw);exact encI_one hio;(exact qst);(refine apk ?_))|((((with_reducible apply sw_draw (id:=2) 10 [(0,true),(1,true),(2,true),(3,true),(5,true),(6,true),(4,false),(7,false),(8,false),(9,false)] [(10,false)] [(b1,.cells [.bool i'.known,.slice i'.ea i'.ex.length i'.ec,.slice i'.pa i'.pre.length i'.pc,.slice i'.sa i'.suf.length i'.sc,.int .i64 i'.q.kind,i'.q.gv,i'.q.sv].toArray 40 (0,0))]);kernel_rfl;(exact atks);kernel_rfl;intro r' hl'));have hone:=hl'.1)|((with_reducible refine swo_isCall 38 ?_);(with_reducible apply kx_lendC (A:=IC r i'));(exact atk);intro r1 g1 hr1 hg1 hA1;(first|(refine acl Tryz.func38 ?_;refine acr (hga r1 g1 i' hik (Sx.sub.trans hone hr1) hA1 hg1) ?_;rintro v' H' ⟨q1,hq11,hq12,rfl,rfl⟩;refine apl ?_)|(refine acl Tryz.func38 ?_;refine acr (hgb r1 g1 i' hik (Sx.sub.trans hone hr1) hA1 hg1) ?_;rintro v' H' ⟨q2,hq21,hq22,rfl,rfl⟩;refine apl ?_)))|(first|((with_reducible apply kx_bs1);exact ty_el;exact ty_inf;rfl;rfl;rfl;intro bz;(refine apk ?_))|((with_reducible apply kx_bsN);exact ty_el;exact ty_inf;rfl;rfl;rfl;intro bz;(refine apk ?_)))|((with_reducible refine swo_isCall 37 ?_);(with_reducible apply kx_lendC (A:=IC r i'));(exact atk);intro r1 g1 hr1 hg1 hA1;(with_reducible apply kx_lendC (A:=OwnQ q1));(exact atk);intro r2 g2 hr2 hg2 hA2;(with_reducible apply kx_lendC (A:=OwnQ q2));(exact atk);intro r3 g3 hr3 hg3 hA3;(with_reducible apply kx_lend [(bz,.cells [.int .i64 i'.q.kind,i'.q.gv,i'.q.sv,.int .i64 q1.kind,q1.gv,q1.sv,.int .i64 q2.kind,q2.gv,q2.sv].toArray 38 (0,0))]);(exact atks);intro r5 hl5;(refine acl Tryz.func37 ?_;refine acr (han r5 bz g1 g2 g3 i' q1 q2 hik hq11 hq21 (Sx.sub.trans hone (Sx.sub.trans hr1 (Sx.sub.trans hr2 (Sx.sub.trans hr3 hl5.1)))) hA1 (fun b o e=>hl5.1 b o (hr3 b o (hr2 b o (hg1 b o e)))) hA2 (fun b o e=>hl5.1 b o (hr3 b o (hg2 b o e))) hA3 (fun b o e=>hl5.1 b o (hg3 b o e)) (Lent.h1 hl5)) ?_;rintro v' H' ⟨q3,hq31,hq32,rfl,rfl⟩;refine apl ?_))|((with_reducible apply kx_storeN);exact ty_size;rfl;rfl;rfl;(exact qsw);exact hq32;(exact qst);(refine apk ?_))|exact xf|refine aw0 ?_|(refine ap2 ?_ ?_<;>try intro h)|refine aw1 ?_|(refine abx ?_;intro bb)|(refine abz ?_;intro bz)|(refine ahv ?_;intro v' hv')|(refine aac ?_;intro ac cc)|refine aw2 ?_|(refine ap4 ?_ ?_<;>try intro h)|apply True.intro)
 ((with_reducible apply fp_ret);exact res_W rfl rfl atk ty_agg ty_size rfl)
 exact HR.out _ _ _ [OwnQ q3] atks ⟨q3,hq31,hq32,rfl,rfl⟩
theorem small1_any (r:Hp) (s:Tx):Tri Tryz.prog r 121 [.string (bs s)] [] fun w H=>w = .bool (decide (40<s.length))/\H=[]:=by
 refine Tri.free2 fun R HR=>?_
 by_cases h:40<s.length
 · rw [decide_eq_true h] at HR
   refine ae Tryz.func121 Tryz.ntmps121 ?_
   repeat' (first|exact xf|refine aw0 ?_|(refine ap2 ?_ ?_<;>try intro h)|refine aw1 ?_|(refine abx ?_;intro bb)|(refine abz ?_;intro bz)|(refine ahv ?_;intro v' hv')|(refine aac ?_;intro ac cc)|refine aw2 ?_|(refine ap4 ?_ ?_<;>try intro h)|apply True.intro)
   ((with_reducible apply fp_ret);exact res_1 rfl rfl)
   exact HR.out _ _ _ [] Takes.all ⟨by first|rfl|(congr 1;simp;omega),rfl⟩
 · rw [decide_eq_false h] at HR
   refine ae Tryz.func121 Tryz.ntmps121 ?_
   repeat' (first|exact xf|refine aw0 ?_|(refine ap2 ?_ ?_<;>try intro h)|refine aw1 ?_|(refine abx ?_;intro bb)|(refine abz ?_;intro bz)|(refine ahv ?_;intro v' hv')|(refine aac ?_;intro ac cc)|refine aw2 ?_|(refine ap4 ?_ ?_<;>try intro h)|apply True.intro)
   ((with_reducible apply fp_ret);exact res_1 rfl rfl)
   exact HR.out _ _ _ [] Takes.all ⟨by first|rfl|(congr 1;simp;omega),rfl⟩
theorem small_any' (l:List Tx):smallK l=(decide (l.length<=8) && !(l.any fun s=>decide (40<s.length))):=by
 unfold smallK
 congr 1
 rw [List.not_any_eq_all_not]
 congr 1
 funext s
 by_cases h:s.length<=40
 · rw [decide_eq_true h,decide_eq_false (by omega)];rfl
 · rw [decide_eq_false h,decide_eq_true (by omega)];rfl
theorem small_any (r:Hp) (v:Value) (l:List Tx) (hv:Els r 1 encTx v l):Tri Tryz.prog r 79 [v] [] fun w H=>w = .bool (smallK l)/\H=[]:=by
 have hlm:=maxI hv.2.2.1
 have hc:=contStr_any r v l 121 [] [] (fun s=>decide (40<s.length)) hv (goesOf Tryz.func121 (by kernel_rfl) rfl) (fun k hk=>small1_any r _)
 rw [small_any']
 obtain ⟨b,hb⟩ : ∃ b,(l.any fun s=>decide (40<s.length))=b:=⟨_,rfl⟩
 rw [hb] at hc ⊢
 refine Tri.free2 fun R HR=>?_
 by_cases h:l.length<=8
 · rw [decide_eq_true h] at HR
   refine ae Tryz.func79 Tryz.ntmps79 ?_
   repeat' (first|(refine acl Tryz.func60 ?_;refine acr (hc) ?_;rintro v' H' ⟨rfl,rfl⟩;refine apl ?_)|exact xf|refine aw0 ?_|(refine ap2 ?_ ?_<;>try intro h)|refine aw1 ?_|(refine abx ?_;intro bb)|(refine abz ?_;intro bz)|(refine ahv ?_;intro v' hv')|(refine aac ?_;intro ac cc)|refine aw2 ?_|(refine ap4 ?_ ?_<;>try intro h)|apply True.intro)
   all_goals
    ((with_reducible apply fp_ret);exact res_1 rfl rfl)
    exact HR.out _ _ _ [] Takes.all ⟨by first|rfl|(cases b<;>rfl)|(congr 1;simp_all),rfl⟩
 · rw [decide_eq_false h] at HR
   refine ae Tryz.func79 Tryz.ntmps79 ?_
   repeat' (first|(refine acl Tryz.func60 ?_;refine acr (hc) ?_;rintro v' H' ⟨rfl,rfl⟩;refine apl ?_)|exact xf|refine aw0 ?_|(refine ap2 ?_ ?_<;>try intro h)|refine aw1 ?_|(refine abx ?_;intro bb)|(refine abz ?_;intro bz)|(refine ahv ?_;intro v' hv')|(refine aac ?_;intro ac cc)|refine aw2 ?_|(refine ap4 ?_ ?_<;>try intro h)|apply True.intro)
   all_goals
    ((with_reducible apply fp_ret);exact res_1 rfl rfl)
    exact HR.out _ _ _ [] Takes.all ⟨by first|rfl|(congr 1;simp_all),rfl⟩
theorem indexT_any (r:Hp) (v:Value) (l:List Tx) (s:Tx) (hv:Els r 1 encTx v l):Tri Tryz.prog r 147 [v,.string (bs s)] [] fun w H => ∃ k:Int,w = .int .i64 k/\(0<=k↔s∈l)/\H=[]:=by
 have hlm:=maxI hv.2.2.1
 refine Tri.free2 fun R HR=>?_
 refine ae Tryz.func147 Tryz.ntmps147 ?_
 repeat' (first|exact xf|refine aw0 ?_|(refine ap2 ?_ ?_<;>try intro h)|refine aw1 ?_|(refine abx ?_;intro bb)|(refine abz ?_;intro bz)|(refine ahv ?_;intro v' hv')|(refine aac ?_;intro ac cc)|refine aw2 ?_|(refine ap4 ?_ ?_<;>try intro h)|apply True.intro)
 refine sw_loop (fun gm t H' => ∃ (k:Nat),gm=l.length+1 - k/\(k<=l.length)/\(∀ x∈l.take k,¬ s=x)/\(∃ G,Takes [] H' G)/\Sls t 19 [(0,v),(1,.string (bs s)),(7,.int .i64 l.length),(8,.int .i64 k)]) _ ⟨0,rfl,Nat.zero_le _,(fun x hx=>by simp at hx),⟨[],by (exact atks)⟩,asls⟩ ?_
 rintro gm t H' ⟨k,rfl,hk,hno,⟨G,hp⟩,hs'⟩
 revert t;refine sls_all ?_;iterate 15 intro uu'
 refine sw_takeG hp ?_;clear hp
 by_cases hlt:k<l.length
 · obtain ⟨x,hx⟩ : ∃ x,l.getD k default=x:=⟨_,rfl⟩
   have hxm:x∈l:=hx ▸ getD_memU hlt
   have htk:l.take (k+1)=l.take k++[x]:=by rw [take_getD (d:=default) hlt,hx]
   by_cases he:s=x
   · subst he
     repeat' (first|(rw [hx])|exact xf|refine aw0 ?_|(refine ap2 ?_ ?_<;>try intro h)|refine aw1 ?_|(refine abx ?_;intro bb)|(refine abz ?_;intro bz)|(refine ahv ?_;intro v' hv')|(refine aac ?_;intro ac cc)|refine aw2 ?_|(refine ap4 ?_ ?_<;>try intro h)|apply True.intro)
     ((with_reducible apply fp_ret);exact res_1 rfl rfl)
     exact HR.out _ _ _ [] Takes.all ⟨_,rfl,⟨fun _=>hxm,fun _=>by omega⟩,rfl⟩
   · repeat' (first|(rw [hx])|exact xf|refine aw0 ?_|(refine ap2 ?_ ?_<;>try intro h)|refine aw1 ?_|(refine abx ?_;intro bb)|(refine abz ?_;intro bz)|(refine ahv ?_;intro v' hv')|(refine aac ?_;intro ac cc)|refine aw2 ?_|(refine ap4 ?_ ?_<;>try intro h)|apply True.intro)
     exact ⟨_,by omega,k+1,rfl,by omega,(fun y hy=>by rw [htk] at hy;rcases List.mem_append.1 hy with hy|hy;exact hno y hy;rw [List.mem_singleton.1 hy];exact he),⟨[],by (exact atks)⟩,asls⟩
 · obtain rfl:k=l.length:=by omega
   rw [List.take_length] at hno
   repeat' (first|exact xf|refine aw0 ?_|(refine ap2 ?_ ?_<;>try intro h)|refine aw1 ?_|(refine abx ?_;intro bb)|(refine abz ?_;intro bz)|(refine ahv ?_;intro v' hv')|(refine aac ?_;intro ac cc)|refine aw2 ?_|(refine ap4 ?_ ?_<;>try intro h)|apply True.intro)
   ((with_reducible apply fp_ret);exact res_1 rfl rfl)
   exact HR.out _ _ _ [] Takes.all ⟨_,rfl,⟨fun h=>absurd h (by omega),fun h=>absurd rfl (hno s h)⟩,rfl⟩
theorem containsT_any (r:Hp) (v:Value) (l:List Tx) (s:Tx) (hv:Els r 1 encTx v l):Tri Tryz.prog r 122 [v,.string (bs s)] [] fun w H=>w = .bool (decide (s∈l))/\H=[]:=by
 have hi:=indexT_any r v l s hv
 refine Tri.free2 fun R HR=>?_
 refine ae Tryz.func122 Tryz.ntmps122 ?_
 repeat' (first|(refine acl Tryz.func147 ?_;refine acr (hi) ?_;rintro v' H' ⟨k,rfl,hk,rfl⟩;refine apl ?_)|exact xf|refine aw0 ?_|(refine ap2 ?_ ?_<;>try intro h)|refine aw1 ?_|(refine abx ?_;intro bb)|(refine abz ?_;intro bz)|(refine ahv ?_;intro v' hv')|(refine aac ?_;intro ac cc)|refine aw2 ?_|(refine ap4 ?_ ?_<;>try intro h)|apply True.intro)
 ((with_reducible apply fp_ret);exact res_1 rfl rfl)
 exact HR.out _ _ _ [] Takes.all ⟨by first|rfl|(congr 1;simp [hk]),rfl⟩
def finK (L:List Tx):List Tx:=if 8<L.length\/[]∈L then [[]] else L
def restK (cut:Nat->Tx->Tx):Nat->List Tx->List Tx
 | 0,L=>finK L
 | 1,L=>finK (if 8<L.length then rowT (L.map (cut 1)) else L)
 | _+2,L=>finK (if 8<(rowT (L.map (cut 2))).length then rowT ((rowT (L.map (cut 2))).map (cut 1)) else rowT (L.map (cut 2)))
theorem rest_two (cut:Nat->Tx->Tx) (L:List Tx):restK cut 2 L=fixedK cut L:=rfl
theorem row_len (l:List Tx):(rowT l).length<=l.length:=by
 have h : ∀ (l m:List Tx),(l.foldl (insBy id) m).length<=m.length+l.length:=fun l=>by
  induction l with
  | nil=>intro m;simp
  | cons x l ih =>
   intro m
   have h1:=ih (insBy id m x)
   have h2:(insBy id m x).length<=m.length+1:=by
    clear h1 ih
    induction m with
    | nil=>simp [insBy]
    | cons y m ihm =>
     unfold insBy
     split
     · simp only [List.length_cons];omega
     · split
       · simp
       · simp
   simp only [List.foldl_cons,List.length_cons];omega
 have:=h l []
 simpa [sortBy] using this
theorem lit1_row {b:Nat} {s:Tx} : ∀ h,pt b (.cells [.string (bs s)].toArray 9 (0,0)) h->TxC (some ⟨b,0,none⟩) 1 [s] h:=fun h e=>RowC.of_pt (sz:=1) (n:=1) (cap:=1) (Nat.le_refl _) (by unfold maxLen;omega) rfl h e
end Go.Proofs.YteknekiclhnkiaaGreatDoor
