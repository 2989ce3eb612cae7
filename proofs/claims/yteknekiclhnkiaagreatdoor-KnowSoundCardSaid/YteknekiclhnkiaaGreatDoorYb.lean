/- know.Or: its contract. -/
import Derived.Test.YteknekiclhnkiaaGreatDoorSx
import Derived.Test.YteknekiclhnkiaaGreatDoorYa
set_option maxHeartbeats 8000000
set_option maxRecDepth 10000
namespace Go.Proofs.YteknekiclhnkiaaGreatDoor
open Go.RowKit
namespace Sx
inductive Pm
 | leaf:Pm
 | seg (π:List (Nat × Bool)) (next:Pm):Pm
 | two (i j:Nat) (a b:Pm):Pm
 | three (i j k:Nat) (a b c:Pm):Pm
def SWtm (P:Program) (l:Option Nat) (r:Hp) (ops:Array Oper) (K:St):Pm->St
 | .leaf,t,H=>K t H
 | .seg π p,t,H=>SWpi P l r ops (SWtm P l r ops K p) π t H
 | .two i j a b,t,H=>SWpi P l r ops (SWtm P l r ops K a) [(i,false)] t H/\SWpi P l r ops (SWtm P l r ops K b) [(j,false)] t H
 | .three i j k a b c,t,H=>SWpi P l r ops (SWtm P l r ops K a) [(i,false)] t H/\SWpi P l r ops (SWtm P l r ops K b) [(j,false)] t H/\SWpi P l r ops (SWtm P l r ops K c) [(k,false)] t H
def Pm.dep:Pm->Nat
 | .leaf=>0
 | .seg π p=>π.length+p.dep
 | .two _ _ a _=>a.dep+1
 | .three _ _ _ a _ _=>a.dep+1
def chkM (ops:Array Oper) (m:Nat) (fin:Array Bool):Pm->Array Bool->Bool
 | .leaf,li=>rdy ops m li == [] && li == fin
 | .seg π p,li=>chkP ops m π li && chkM ops m fin p (lend π li)
 | .two i j a b,li=>rdy ops m li == [i,j] && a.dep == b.dep && chkM ops m fin a (li.setIfInBounds i true) && chkM ops m fin b (li.setIfInBounds j true)
 | .three i j k a b c,li=>rdy ops m li == [i,j,k] && a.dep == b.dep && a.dep == c.dep && chkM ops m fin a (li.setIfInBounds i true) && chkM ops m fin b (li.setIfInBounds j true) && chkM ops m fin c (li.setIfInBounds k true)
section
variable {P : Program} {l : Option Nat} {r : Hp} {ops : Array Oper} {m : Nat} {K : St} {Q : Exit → St} {t : List Value} {H : List Ch}
theorem swany_of_tm {K:Array Bool->St} {fin:Array Bool} (hok:okOps ops=true) : ∀ (p:Pm) (li:Array Bool) (t:List Value) (H:List Ch),chkM ops m fin p li=true->SWtm P l r ops (K fin) p t H->SWany P l r ops m K p.dep li t H
 | .leaf,li,t,H,hc,h=>by
  unfold chkM at hc
  simp only [Bool.and_eq_true,beq_iff_eq] at hc
  rw [← hc.2] at h
  exact ⟨hc.1,h⟩
 | .seg π p,li,t,H,hc,h=>by
  unfold chkM at hc
  rw [Bool.and_eq_true] at hc
  exact swany_pre hok π li t H hc.1 (swpi_mono π (fun t H h=>swany_of_tm hok p _ t H hc.2 h) _ _ h)
 | .two i j a b,li,t,H,hc,h=>by
  unfold chkM at hc
  simp only [Bool.and_eq_true,beq_iff_eq] at hc
  obtain ⟨⟨⟨h1,h2⟩,h3⟩,h4⟩:=hc
  refine ⟨fun c=>(by rw [h1] at c;cases c),fun x hx=>?_⟩
  rw [h1] at hx
  have hx':x=i\/x=j:=by simpa using hx
  rcases hx' with rfl|rfl
  · exact swop_mono h.1 fun t' H' h5=>swany_of_tm hok a _ _ _ h3 h5
  · rw [h2];exact swop_mono h.2 fun t' H' h5=>swany_of_tm hok b _ _ _ h4 h5
 | .three i j k a b c,li,t,H,hc,h=>by
  unfold chkM at hc
  simp only [Bool.and_eq_true,beq_iff_eq] at hc
  obtain ⟨⟨⟨⟨⟨h1,h2⟩,h2'⟩,h3⟩,h4⟩,h5⟩:=hc
  refine ⟨fun c=>(by rw [h1] at c;cases c),fun x hx=>?_⟩
  rw [h1] at hx
  have hx':x=i\/x=j\/x=k:=by simpa using hx
  rcases hx' with rfl|rfl|rfl
  · exact swop_mono h.1 fun t' H' h6=>swany_of_tm hok a _ _ _ h3 h6
  · rw [h2];exact swop_mono h.2.1 fun t' H' h6=>swany_of_tm hok b _ _ _ h4 h6
  · rw [h2'];exact swop_mono h.2.2 fun t' H' h6=>swany_of_tm hok c _ _ _ h5 h6
theorem swtm_mono : ∀ (p:Pm) {K K':St},(∀ t H,K t H->K' t H) -> ∀ t H,SWtm P l r ops K p t H->SWtm P l r ops K' p t H
 | .leaf,_,_,hk,_,_,h=>hk _ _ h
 | .seg π p,_,_,hk,_,_,h=>swpi_mono π (swtm_mono p hk) _ _ h
 | .two _ _ a b,_,_,hk,_,_,h=>⟨swpi_mono _ (swtm_mono a hk) _ _ h.1,swpi_mono _ (swtm_mono b hk) _ _ h.2⟩
 | .three _ _ _ a b c,_,_,hk,_,_,h=>⟨swpi_mono _ (swtm_mono a hk) _ _ h.1,swpi_mono _ (swtm_mono b hk) _ _ h.2.1,swpi_mono _ (swtm_mono c hk) _ _ h.2.2⟩
theorem sw_drawM {id:Nat} {H':List Ch} (m:Nat) (p:Pm) (fin:Array Bool) (π2:List (Nat × Bool)) (bs:List (Nat × Obj)) (hm:P.follows .mixedOrders=true) (hp:Takes (pts bs) H H')
 (hc:(okOps ops && phase ops m && phase ops ops.size && chkM ops m fin p (Array.replicate ops.size false) && chk ops ops.size π2 fin)=true)
 (h : ∀ r',Lent r r' bs->SWtm P l r' ops (fun t' H''=>SWpi P l r ops (Q .normal) π2 t' (pts bs++H'')) p t H'):SW P l r (.region id ops true) Q t H:=by
 simp only [Bool.and_eq_true] at hc
 obtain ⟨⟨⟨⟨h1,h2⟩,h3⟩,h4⟩,h5⟩:=hc
 exact sw_draw0 m p.dep fin π2 bs hm hp h1 h2 h3 h5 fun r' hl=>swany_of_tm (K:=fun li t' H''=>li=fin/\SWpi P l r ops (Q .normal) π2 t' (pts bs++H'')) h1 p _ t H' h4 (swtm_mono p (fun t H h=>⟨rfl,h⟩) _ _ (h r' hl))
theorem tm_leaf (h:K t H):SWtm P l r ops K .leaf t H:=h
theorem tm_seg {π:List (Nat × Bool)} {p:Pm} (h:SWpi P l r ops (SWtm P l r ops K p) π t H):SWtm P l r ops K (.seg π p) t H:=h
theorem tm_two {i j:Nat} {a b:Pm} (h1:SWpi P l r ops (SWtm P l r ops K a) [(i,false)] t H) (h2:SWpi P l r ops (SWtm P l r ops K b) [(j,false)] t H):SWtm P l r ops K (.two i j a b) t H:=⟨h1,h2⟩
theorem tm_three {i j k:Nat} {a b c:Pm} (h1:SWpi P l r ops (SWtm P l r ops K a) [(i,false)] t H) (h2:SWpi P l r ops (SWtm P l r ops K b) [(j,false)] t H) (h3:SWpi P l r ops (SWtm P l r ops K c) [(k,false)] t H):SWtm P l r ops K (.three i j k a b c) t H:=⟨h1,h2,h3⟩
end
end Sx
end Go.Proofs.YteknekiclhnkiaaGreatDoor
namespace Go.Proofs.YteknekiclhnkiaaGreatDoor
open Go.RowKit Sx
theorem or_bothK {a b:InfK} (h:a.known=true/\b.known=true):outO a b=⟨true,a.ex++b.ex,[],[],orQ [a.m,b.m]⟩:=by unfold outO;rw [if_pos h]
theorem or_oneK {a b:InfK} (h:¬ (a.known=true/\b.known=true)):outO a b=⟨false,[],(looseK a).pre++(looseK b).pre,(looseK a).suf++(looseK b).suf,orQ [(looseK a).m,(looseK b).m]⟩:=by unfold outO;rw [if_neg h]
theorem orK_any (r:Hp) (hT:TabR r) (i b:InfV) (hi:InfR r i) (hb:InfR r b) (oi:(encQ i.q).all one?=true) (ob:(encQ b.q).all one?=true) (hf:FitO i.key b.key) (hk:i.known=true) (hk2:b.known=true):Tri Tryz.prog r 45 [.agg [.bool i.known,.slice i.ea i.ex.length i.ec,.slice i.pa i.pre.length i.pc,.slice i.sa i.suf.length i.sc,.int .i64 i.q.kind,i.q.gv,i.q.sv].toArray,.agg [.bool b.known,.slice b.ea b.ex.length b.ec,.slice b.pa b.pre.length b.pc,.slice b.sa b.suf.length b.sc,.int .i64 b.q.kind,b.q.gv,b.q.sv].toArray] [] fun w H => ∃ u:InfV,u.key=orI i.key b.key/\(encQ u.q).all one?=true/\w = .agg [.bool u.known,.slice u.ea u.ex.length u.ec,.slice u.pa u.pre.length u.pc,.slice u.sa u.suf.length u.sc,.int .i64 u.q.kind,u.q.gv,u.q.sv].toArray/\H=[OwnI u]:=by
 have hex:(i.ex++b.ex).length<=1000000000:=by
  have h1:=Nat.le_trans (sizeT_len i.ex) hf.fa.ex
  have h2:=Nat.le_trans (sizeT_len b.ex) hf.fb.ex
  rw [List.length_append];omega
 have hco : ∀ r' bz,sub r r'->Tri Tryz.prog r' 78 [.slice (some ⟨bz,0,none⟩) 2 2] [pt bz (.cells [.slice i.ea i.ex.length i.ec,.slice b.ea b.ex.length b.ec].toArray 34 (0,0))] fun w H => ∃ a c,w = .slice a (i.ex++b.ex).length c/\H=[TxC a c (i.ex++b.ex)]:=fun r' bz s=>Tri.frz fun r1 g1 s1 t1 h1=>concatT2 r1 bz _ _ i.ex b.ex ((hi.ex.mono s).mono s1) ((hb.ex.mono s).mono s1) 34 (t1 _ _ (by rw [show g1=Sx.one bz _ from h1];exact Sx.one_same)) hex
 have hor : ∀ r' bz,sub r r'->Tri Tryz.prog r' 66 [.slice (some ⟨bz,0,none⟩) 2 2] [pt bz (.cells [.int .i64 i.q.kind,i.q.gv,i.q.sv,.int .i64 b.q.kind,b.q.gv,b.q.sv].toArray 38 (0,0))] fun w H => ∃ u:QuV,u.key=orQ [i.q.key,b.q.key]/\(encQ u).all one?=true/\w = .agg [.int .i64 u.kind,u.gv,u.sv].toArray/\H=[OwnQ u]:=fun r' bz s=>Tri.frz fun r1 g1 s1 t1 h1=>or2_any r1 (hT.mono (Sx.sub.trans s s1)) bz i.q b.q ((hi.q.mono s).mono s1) ((hb.q.mono s).mono s1) (t1 _ _ (by rw [show g1=Sx.one bz _ from h1];exact Sx.one_same)) hf.fa.right hf.fb.right (Nat.le_trans hf.sm (by omega))
 have hs : ∀ r' a1 c1 (qm:QuV),sub r r'->qm.key=orQ [i.q.key,b.q.key]->(encQ qm).all one?=true->Tri Tryz.prog r' 46 [.agg [.bool true,.slice a1 (i.ex++b.ex).length c1,.slice none 0 0,.slice none 0 0,.int .i64 qm.kind,qm.gv,qm.sv].toArray] [OwnI ⟨true,a1,c1,i.ex++b.ex,none,0,[],none,0,[],qm⟩] fun w H => ∃ u:InfV,u.key=orI i.key b.key/\(encQ u.q).all one?=true/\w = .agg [.bool u.known,.slice u.ea u.ex.length u.ec,.slice u.pa u.pre.length u.pc,.slice u.sa u.suf.length u.sc,.int .i64 u.q.kind,u.q.gv,u.q.sv].toArray/\H=[OwnI u]:=fun r' a1 c1 qm s k1 o1=>by
  have e:InfV.key ⟨true,a1,c1,i.ex++b.ex,none,0,[],none,0,[],qm⟩=outO i.key b.key:=by
   rw [or_bothK (show i.key.known=true/\b.key.known=true from ⟨hk,hk2⟩)]
   show InfK.mk _ _ _ _ _=_
   rw [k1];rfl
  have h:=settledO_any r' (hT.mono s) ⟨true,a1,c1,i.ex++b.ex,none,0,[],none,0,[],qm⟩ (by rw [e];exact hf.fo) (by rw [e];exact hf.om) o1
  rw [e,← or_out] at h
  exact h
 obtain ⟨Z,hZ⟩ : ∃ Z,orI i.key b.key=Z:=⟨_,rfl⟩
 obtain ⟨X,hX⟩ : ∃ X,i.ex++b.ex=X:=⟨_,rfl⟩
 rw [hZ] at hs ⊢
 rw [hX] at hs hco
 clear hZ hX hf hi hb hex
 obtain ⟨known,ea,ec,ex,pa,pc,pre,sa,sc,suf,q⟩:=i
 obtain ⟨known2,ea2,ec2,ex2,pa2,pc2,pre2,sa2,sc2,suf2,q2⟩:=b
 dsimp only at hco hor hs oi ob hk hk2 ⊢
 subst hk;subst hk2
 refine Tri.free2 fun R HR=>?_
 refine ae Tryz.func45 Tryz.ntmps45 ?_
 repeat' (first|((with_reducible apply kx_box (v:= .agg [.bool true,.slice ea ex.length ec,.slice pa pre.length pc,.slice sa suf.length sc,.int .i64 q.kind,q.gv,q.sv].toArray));rfl;(exact qcl);intro b2;(refine apk ?_))|((with_reducible apply kx_box (v:= .agg [.bool true,.slice ea2 ex2.length ec2,.slice pa2 pre2.length pc2,.slice sa2 suf2.length sc2,.int .i64 q2.kind,q2.gv,q2.sv].toArray));rfl;(exact qcl);intro b3;(refine apk ?_))|((with_reducible apply kx_alloc (E:=40));exact ty_zero;(exact qcl);intro b4;(refine apk ?_))|exact xf|refine aw0 ?_|(refine ap2 ?_ ?_<;>try intro h)|refine aw1 ?_|(refine abx ?_;intro bb)|(refine abz ?_;intro bz)|(refine ahv ?_;intro v' hv')|(refine aac ?_;intro ac cc)|refine aw2 ?_|(refine ap4 ?_ ?_<;>try intro h)|apply True.intro)
 repeat' (first|((with_reducible apply sw_drawT (id:=2) 14 (Pl.seg [(0,true),(1,true),(2,true),(3,true),(6,true),(7,true),(8,true),(9,true)] (Pl.two 4 10 (Pl.seg [] (Pl.two 5 10 (Pl.seg [(10,false),(11,false),(12,true),(13,false)] Pl.leaf) (Pl.seg [(5,false),(11,false),(12,true),(13,false)] Pl.leaf))) (Pl.seg [(4,false),(5,false),(11,false),(12,true),(13,false)] Pl.leaf))) (List.replicate 14 true++List.replicate 1 false).toArray [(14,false)] [(b2,.cells [.bool true,.slice ea ex.length ec,.slice pa pre.length pc,.slice sa suf.length sc,.int .i64 q.kind,q.gv,q.sv].toArray 40 (0,0)),(b3,.cells [.bool true,.slice ea2 ex2.length ec2,.slice pa2 pre2.length pc2,.slice sa2 suf2.length sc2,.int .i64 q2.kind,q2.gv,q2.sv].toArray 40 (0,0))]);kernel_rfl;(exact atks);kernel_rfl;intro r' hl')|((with_reducible apply pi_pur);rfl;(exact qwt);(with_reducible apply pu_ldP);rfl;(first|assumption|exact Lent.h1 hl'|exact Lent.h2 hl'|exact Lent.h3 hl');(simp only [cut,List.drop_succ_cons,List.drop_zero,List.take_succ_cons,List.take_zero];rfl);rfl;(refine apk ?_))|((with_reducible apply kx_bsL (d:=some 15));exact ty_el;exact ty_inf;rfl;rfl;rfl;(exact qcs);rfl;intro b15;(refine apk ?_))|((with_reducible apply kx_bsL (d:=some 21));exact ty_el;exact ty_inf;rfl;rfl;rfl;(exact qcs);rfl;intro b21;(refine apk ?_))|(refine acl Tryz.func78 ?_;refine acr (hco r' b15 hl'.1) ?_;rintro v' H' ⟨a7,c7,rfl,rfl⟩;refine apl ?_)|(refine acl Tryz.func66 ?_;refine acr (hor r' b21 hl'.1) ?_;rintro v' H' ⟨qm,hqm1,hqm2,rfl,rfl⟩;refine apl ?_)|((with_reducible apply kx_storeN);exact ty_size;rfl;rfl;rfl;(exact qsw);exact h7_one _ _ _ _ _ _ _ _ _ _ _ hqm2;(exact qst);(refine apk ?_))|((with_reducible refine swo_isCall 46 ?_);(refine swo_joinA (As:=[TxC a7 c7 X,OwnQ qm]) (D:=OwnI ⟨true,a7,c7,X,none,0,[],none,0,[],qm⟩) atks (fun h e=>own_two h e) ?_);(refine acl Tryz.func46 ?_;refine acr (hs r' a7 c7 qm hl'.1 hqm1 hqm2) ?_;rintro v' H' ⟨u,hu1,hu2,rfl,rfl⟩;refine apl ?_))|((with_reducible apply kx_storeN);exact ty_size;rfl;rfl;rfl;(exact qsw);exact encI_one hu2;(exact qst);(refine apk ?_))|exact xf|refine aw0 ?_|(refine ap2 ?_ ?_<;>try intro h)|refine aw1 ?_|(refine abx ?_;intro bb)|(refine abz ?_;intro bz)|(refine ahv ?_;intro v' hv')|(refine aac ?_;intro ac cc)|refine aw2 ?_|(refine ap4 ?_ ?_<;>try intro h)|apply True.intro)
 all_goals
  ((with_reducible apply fp_ret);exact res_W rfl rfl atk ty_agg ty_size rfl)
  exact HR.out _ _ _ [OwnI u] atks ⟨u,hu1,hu2,rfl,rfl⟩
theorem orU_any (r:Hp) (hT:TabR r) (i b:InfV) (hi:InfR r i) (hb:InfR r b) (oi:(encQ i.q).all one?=true) (ob:(encQ b.q).all one?=true) (hf:FitO i.key b.key) (hn:¬ (i.known=true/\b.known=true)):Tri Tryz.prog r 45 [.agg [.bool i.known,.slice i.ea i.ex.length i.ec,.slice i.pa i.pre.length i.pc,.slice i.sa i.suf.length i.sc,.int .i64 i.q.kind,i.q.gv,i.q.sv].toArray,.agg [.bool b.known,.slice b.ea b.ex.length b.ec,.slice b.pa b.pre.length b.pc,.slice b.sa b.suf.length b.sc,.int .i64 b.q.kind,b.q.gv,b.q.sv].toArray] [] fun w H => ∃ u:InfV,u.key=orI i.key b.key/\(encQ u.q).all one?=true/\w = .agg [.bool u.known,.slice u.ea u.ex.length u.ec,.slice u.pa u.pre.length u.pc,.slice u.sa u.suf.length u.sc,.int .i64 u.q.kind,u.q.gv,u.q.sv].toArray/\H=[OwnI u]:=by
 obtain ⟨la1,la2,_,la4,_,_⟩:=loose_fit hf.fa
 obtain ⟨lb1,lb2,_,lb4,_,_⟩:=loose_fit hf.fb
 have hlen : ∀ {l m x y:List Tx},l=x->m=y->sizeT x<=100000->sizeT y<=100000->(l++m).length<=1000000000:=fun {l m x y} e1 e2 h1 h2=>by
  subst e1;subst e2
  have h3:=Nat.le_trans (sizeT_len l) h1
  have h4:=Nat.le_trans (sizeT_len m) h2
  rw [List.length_append];omega
 have hcp : ∀ r' (v z:InfV),v.key=looseK i.key->z.key=looseK b.key->InfR r' v->InfR r' z -> ∀ bz,Tri Tryz.prog r' 78 [.slice (some ⟨bz,0,none⟩) 2 2] [pt bz (.cells [.slice v.pa v.pre.length v.pc,.slice z.pa z.pre.length z.pc].toArray 34 (0,0))] fun w H => ∃ a c,w = .slice a (v.pre++z.pre).length c/\H=[TxC a c (v.pre++z.pre)]:=fun r' v z e1 e2 hv hz bz=>Tri.frz fun r1 g1 s1 t1 h1=>concatT2 r1 bz _ _ v.pre z.pre (hv.pre.mono s1) (hz.pre.mono s1) 34 (t1 _ _ (by rw [show g1=Sx.one bz _ from h1];exact Sx.one_same)) (hlen (congrArg InfK.pre e1) (congrArg InfK.pre e2) la1 lb1)
 have hcs : ∀ r' (v z:InfV),v.key=looseK i.key->z.key=looseK b.key->InfR r' v->InfR r' z -> ∀ bz,Tri Tryz.prog r' 78 [.slice (some ⟨bz,0,none⟩) 2 2] [pt bz (.cells [.slice v.sa v.suf.length v.sc,.slice z.sa z.suf.length z.sc].toArray 34 (0,0))] fun w H => ∃ a c,w = .slice a (v.suf++z.suf).length c/\H=[TxC a c (v.suf++z.suf)]:=fun r' v z e1 e2 hv hz bz=>Tri.frz fun r1 g1 s1 t1 h1=>concatT2 r1 bz _ _ v.suf z.suf (hv.suf.mono s1) (hz.suf.mono s1) 34 (t1 _ _ (by rw [show g1=Sx.one bz _ from h1];exact Sx.one_same)) (hlen (congrArg InfK.suf e1) (congrArg InfK.suf e2) la2 lb2)
 have hor : ∀ r' (v z:InfV),v.key=looseK i.key->z.key=looseK b.key->InfR r' v->InfR r' z -> ∀ bz,sub r r'->Tri Tryz.prog r' 66 [.slice (some ⟨bz,0,none⟩) 2 2] [pt bz (.cells [.int .i64 v.q.kind,v.q.gv,v.q.sv,.int .i64 z.q.kind,z.q.gv,z.q.sv].toArray 38 (0,0))] fun w H => ∃ u:QuV,u.key=orQ [v.q.key,z.q.key]/\(encQ u).all one?=true/\w = .agg [.int .i64 u.kind,u.gv,u.sv].toArray/\H=[OwnQ u]:=fun r' v z e1 e2 hv hz bz s=>Tri.frz fun r1 g1 s1 t1 h1=>by
  have m1:v.q.key=(looseK i.key).m:=congrArg InfK.m e1
  have m2:z.q.key=(looseK b.key).m:=congrArg InfK.m e2
  exact or2_any r1 (hT.mono (Sx.sub.trans s s1)) bz v.q z.q (hv.q.mono s1) (hz.q.mono s1) (t1 _ _ (by rw [show g1=Sx.one bz _ from h1];exact Sx.one_same)) (by rw [m1];exact la4) (by rw [m2];exact lb4) (by rw [m1,m2];exact Nat.le_trans hf.sl (by omega))
 have hs : ∀ r' (v z:InfV),v.key=looseK i.key->z.key=looseK b.key -> ∀ a1 c1 a2 c2 (qm:QuV),sub r r'->qm.key=orQ [v.q.key,z.q.key]->(encQ qm).all one?=true->Tri Tryz.prog r' 46 [.agg [.bool false,.slice none 0 0,.slice a1 (v.pre++z.pre).length c1,.slice a2 (v.suf++z.suf).length c2,.int .i64 qm.kind,qm.gv,qm.sv].toArray] [OwnI ⟨false,none,0,[],a1,c1,v.pre++z.pre,a2,c2,v.suf++z.suf,qm⟩] fun w H => ∃ u:InfV,u.key=orI i.key b.key/\(encQ u.q).all one?=true/\w = .agg [.bool u.known,.slice u.ea u.ex.length u.ec,.slice u.pa u.pre.length u.pc,.slice u.sa u.suf.length u.sc,.int .i64 u.q.kind,u.q.gv,u.q.sv].toArray/\H=[OwnI u]:=fun r' v z e1 e2 a1 c1 a2 c2 qm s k1 o1=>by
  have e:InfV.key ⟨false,none,0,[],a1,c1,v.pre++z.pre,a2,c2,v.suf++z.suf,qm⟩=outO i.key b.key:=by
   rw [or_oneK (show ¬ (i.key.known=true/\b.key.known=true) from hn),← e1,← e2]
   show InfK.mk _ _ _ _ _=_
   rw [k1];rfl
  have h:=settledO_any r' (hT.mono s) ⟨false,none,0,[],a1,c1,v.pre++z.pre,a2,c2,v.suf++z.suf,qm⟩ (by rw [e];exact hf.fo) (by rw [e];exact hf.om) o1
  rw [e,← or_out] at h
  exact h
 have hlo:=loose_any r hT i hi hf.fa oi
 have hlo2:=loose_any r hT b hb hf.fb ob
 obtain ⟨Z,hZ⟩ : ∃ Z,orI i.key b.key=Z:=⟨_,rfl⟩
 obtain ⟨K1,hK1⟩ : ∃ Z,looseK i.key=Z:=⟨_,rfl⟩
 obtain ⟨K2,hK2⟩ : ∃ Z,looseK b.key=Z:=⟨_,rfl⟩
 rw [hZ] at hs ⊢
 rw [hK1,hK2] at hs hor hcp hcs
 rw [hK1] at hlo
 rw [hK2] at hlo2
 clear hZ hK1 hK2 hf hi hb la1 la2 la4 lb1 lb2 lb4 hlen
 obtain ⟨known,ea,ec,ex,pa,pc,pre,sa,sc,suf,q⟩:=i
 obtain ⟨known2,ea2,ec2,ex2,pa2,pc2,pre2,sa2,sc2,suf2,q2⟩:=b
 dsimp only at hcp hcs hor hs oi ob hn hlo hlo2 ⊢
 refine Tri.free2 fun R HR=>?_
 refine ae Tryz.func45 Tryz.ntmps45 ?_
 cases known
 · clear hn
   repeat' (first|((with_reducible apply kx_box (v:= .agg [.bool false,.slice ea ex.length ec,.slice pa pre.length pc,.slice sa suf.length sc,.int .i64 q.kind,q.gv,q.sv].toArray));rfl;(exact qcl);intro b2;(refine apk ?_))|((with_reducible apply kx_box (v:= .agg [.bool known2,.slice ea2 ex2.length ec2,.slice pa2 pre2.length pc2,.slice sa2 suf2.length sc2,.int .i64 q2.kind,q2.gv,q2.sv].toArray));rfl;(exact qcl);intro b3;(refine apk ?_))|((with_reducible apply kx_alloc (E:=40));exact ty_zero;(exact qcl);intro b4;(refine apk ?_))|exact xf|refine aw0 ?_|(refine ap2 ?_ ?_<;>try intro h)|refine aw1 ?_|(refine abx ?_;intro bb)|(refine abz ?_;intro bz)|(refine ahv ?_;intro v' hv')|(refine aac ?_;intro ac cc)|refine aw2 ?_|(refine ap4 ?_ ?_<;>try intro h)|apply True.intro)
   repeat' (first|((with_reducible apply sw_draw (id:=3) 5 [(2,true),(0,false),(1,false),(3,false),(4,false)] [(5,false)] [(b3,.cells [.bool known2,.slice ea2 ex2.length ec2,.slice pa2 pre2.length pc2,.slice sa2 suf2.length sc2,.int .i64 q2.kind,q2.gv,q2.sv].toArray 40 (0,0))]);kernel_rfl;(exact atks);kernel_rfl;intro r' hl')|((with_reducible apply pi_pur);rfl;(exact qwt);(with_reducible apply pu_ldP);rfl;(first|assumption|exact Lent.h1 hl'|exact Lent.h2 hl'|exact Lent.h3 hl');(simp only [cut,List.drop_succ_cons,List.drop_zero,List.take_succ_cons,List.take_zero];rfl);rfl;(refine apk ?_))|((with_reducible refine swo_isCall 36 ?_);(first|(refine acl Tryz.func36 ?_;refine acr (hlo.up hl'.1) ?_;rintro v' H' ⟨v,hv1,hv2,hv3,rfl,rfl⟩;refine apl ?_)|(refine acl Tryz.func36 ?_;refine acr (hlo2.up hl'.1) ?_;rintro v' H' ⟨z,hz1,hz2,hz3,rfl,rfl⟩;refine apl ?_)))|((with_reducible apply kx_storeN);exact ty_size;rfl;rfl;rfl;(exact qsw);exact encI_one hv3;(exact qst);(refine apk ?_))|((with_reducible apply kx_storeN);exact ty_size;rfl;rfl;rfl;(exact qsw);exact encI_one hz3;(exact qst);(refine apk ?_))|((with_reducible apply sw_lendQ (c:= .region 4 _ _) (A:=IC r v));(with_reducible (exact atk));intro r8 g8 hr8 hg8 hA8;have hI8:=hA8 r8 hr8 hg8)|((with_reducible apply sw_lendQ (c:= .region 4 _ _) (A:=IC r z));(with_reducible (exact atk));intro r9 g9 hr9 hg9 hA9;have hI9:=hA9 r9 (Sx.sub.trans hr8 hr9) hg9)|((with_reducible apply sw_drawM (id:=4) 20 (Pm.seg [(0,true),(1,true),(2,true),(3,true),(6,true),(7,true),(8,true),(9,true),(12,true),(13,true),(14,true),(15,true)] (Pm.three 4 10 16 (Pm.seg [] (Pm.three 5 10 16 (Pm.seg [] (Pm.two 10 16 (Pm.seg [] (Pm.two 11 16 (Pm.seg [(16,false),(17,false),(18,true),(19,false)] Pm.leaf) (Pm.seg [(11,false),(17,false),(18,true),(19,false)] Pm.leaf))) (Pm.seg [(10,false),(11,false),(17,false),(18,true),(19,false)] Pm.leaf))) (Pm.seg [] (Pm.two 5 16 (Pm.seg [] (Pm.two 11 16 (Pm.seg [(16,false),(17,false),(18,true),(19,false)] Pm.leaf) (Pm.seg [(11,false),(17,false),(18,true),(19,false)] Pm.leaf))) (Pm.seg [(5,false),(11,false),(17,false),(18,true),(19,false)] Pm.leaf))) (Pm.seg [] (Pm.two 5 10 (Pm.seg [(10,false),(11,false),(17,false),(18,true),(19,false)] Pm.leaf) (Pm.seg [(5,false),(11,false),(17,false),(18,true),(19,false)] Pm.leaf))))) (Pm.seg [] (Pm.two 4 16 (Pm.seg [] (Pm.two 5 16 (Pm.seg [] (Pm.two 11 16 (Pm.seg [(16,false),(17,false),(18,true),(19,false)] Pm.leaf) (Pm.seg [(11,false),(17,false),(18,true),(19,false)] Pm.leaf))) (Pm.seg [(5,false),(11,false),(17,false),(18,true),(19,false)] Pm.leaf))) (Pm.seg [(4,false),(5,false),(11,false),(17,false),(18,true),(19,false)] Pm.leaf))) (Pm.seg [] (Pm.two 4 10 (Pm.seg [] (Pm.two 5 10 (Pm.seg [(10,false),(11,false),(17,false),(18,true),(19,false)] Pm.leaf) (Pm.seg [(5,false),(11,false),(17,false),(18,true),(19,false)] Pm.leaf))) (Pm.seg [(4,false),(5,false),(11,false),(17,false),(18,true),(19,false)] Pm.leaf))))) (List.replicate 20 true++List.replicate 1 false).toArray [(20,false)] [(b2,.cells [.bool v.known,.slice v.ea v.ex.length v.ec,.slice v.pa v.pre.length v.pc,.slice v.sa v.suf.length v.sc,.int .i64 v.q.kind,v.q.gv,v.q.sv].toArray 40 (0,0)),(b3,.cells [.bool z.known,.slice z.ea z.ex.length z.ec,.slice z.pa z.pre.length z.pc,.slice z.sa z.suf.length z.sc,.int .i64 z.q.kind,z.q.gv,z.q.sv].toArray 40 (0,0))]);kernel_rfl;(exact atks);kernel_rfl;intro r' hl')|(with_reducible refine tm_leaf ?_)|(with_reducible refine tm_seg ?_)|(with_reducible refine tm_two ?_ ?_)|(with_reducible refine tm_three ?_ ?_ ?_)|((with_reducible apply kx_bsL (d:=some 33));exact ty_el;exact ty_inf;rfl;rfl;rfl;(exact qcs);rfl;intro b33;(refine apk ?_))|((with_reducible apply kx_bsL (d:=some 39));exact ty_el;exact ty_inf;rfl;rfl;rfl;(exact qcs);rfl;intro b39;(refine apk ?_))|((with_reducible apply kx_bsL (d:=some 45));exact ty_el;exact ty_inf;rfl;rfl;rfl;(exact qcs);rfl;intro b45;(refine apk ?_))|((with_reducible refine swo_isCall 78 ?_);(first|(refine acl Tryz.func78 ?_;refine acr (hcp r' v z hv1 hz1 (hI8.mono (Sx.sub.trans hr9 hl'.1)) (hI9.mono hl'.1) b33) ?_;rintro v' H' ⟨a7,c7,rfl,rfl⟩;refine apl ?_)|(refine acl Tryz.func78 ?_;refine acr (hcs r' v z hv1 hz1 (hI8.mono (Sx.sub.trans hr9 hl'.1)) (hI9.mono hl'.1) b39) ?_;rintro v' H' ⟨a8,c8,rfl,rfl⟩;refine apl ?_)))|(refine acl Tryz.func66 ?_;refine acr (hor r' v z hv1 hz1 (hI8.mono (Sx.sub.trans hr9 hl'.1)) (hI9.mono hl'.1) b45 (Sx.sub.trans hr8 (Sx.sub.trans hr9 hl'.1))) ?_;rintro v' H' ⟨qm,hqm1,hqm2,rfl,rfl⟩;refine apl ?_)|((with_reducible apply kx_storeN);exact ty_size;rfl;rfl;rfl;(exact qsw);exact h7_one _ _ _ _ _ _ _ _ _ _ _ hqm2;(exact qst);(refine apk ?_))|((with_reducible refine swo_isCall 46 ?_);(refine swo_joinA (As:=[TxC a7 c7 (v.pre++z.pre),TxC a8 c8 (v.suf++z.suf),OwnQ qm]) (D:=OwnI ⟨false,none,0,[],a7,c7,v.pre++z.pre,a8,c8,v.suf++z.suf,qm⟩) atks (fun h e=>own_three h e) ?_);(refine acl Tryz.func46 ?_;refine acr (hs r' v z hv1 hz1 a7 c7 a8 c8 qm (Sx.sub.trans hr8 (Sx.sub.trans hr9 hl'.1)) hqm1 hqm2) ?_;rintro v' H' ⟨u,hu1,hu2,rfl,rfl⟩;refine apl ?_))|((with_reducible apply kx_storeN);exact ty_size;rfl;rfl;rfl;(exact qsw);exact encI_one hu2;(exact qst);(refine apk ?_))|exact xf|refine aw0 ?_|(refine ap2 ?_ ?_<;>try intro h)|refine aw1 ?_|(refine abx ?_;intro bb)|(refine abz ?_;intro bz)|(refine ahv ?_;intro v' hv')|(refine aac ?_;intro ac cc)|refine aw2 ?_|(refine ap4 ?_ ?_<;>try intro h)|apply True.intro)
   all_goals
    ((with_reducible apply fp_ret);exact res_W rfl rfl atk ty_agg ty_size rfl)
    exact HR.out _ _ _ [OwnI u] atks ⟨u,hu1,hu2,rfl,rfl⟩
 · have hk2:known2=false:=by
    cases known2
    · rfl
    · exact absurd ⟨rfl,rfl⟩ hn
   subst hk2
   clear hn
   repeat' (first|((with_reducible apply kx_box (v:= .agg [.bool true,.slice ea ex.length ec,.slice pa pre.length pc,.slice sa suf.length sc,.int .i64 q.kind,q.gv,q.sv].toArray));rfl;(exact qcl);intro b2;(refine apk ?_))|((with_reducible apply kx_box (v:= .agg [.bool false,.slice ea2 ex2.length ec2,.slice pa2 pre2.length pc2,.slice sa2 suf2.length sc2,.int .i64 q2.kind,q2.gv,q2.sv].toArray));rfl;(exact qcl);intro b3;(refine apk ?_))|((with_reducible apply kx_alloc (E:=40));exact ty_zero;(exact qcl);intro b4;(refine apk ?_))|exact xf|refine aw0 ?_|(refine ap2 ?_ ?_<;>try intro h)|refine aw1 ?_|(refine abx ?_;intro bb)|(refine abz ?_;intro bz)|(refine ahv ?_;intro v' hv')|(refine aac ?_;intro ac cc)|refine aw2 ?_|(refine ap4 ?_ ?_<;>try intro h)|apply True.intro)
   repeat' (first|((with_reducible apply sw_draw (id:=3) 5 [(2,true),(0,false),(1,false),(3,false),(4,false)] [(5,false)] [(b3,.cells [.bool false,.slice ea2 ex2.length ec2,.slice pa2 pre2.length pc2,.slice sa2 suf2.length sc2,.int .i64 q2.kind,q2.gv,q2.sv].toArray 40 (0,0))]);kernel_rfl;(exact atks);kernel_rfl;intro r' hl')|((with_reducible apply pi_pur);rfl;(exact qwt);(with_reducible apply pu_ldP);rfl;(first|assumption|exact Lent.h1 hl'|exact Lent.h2 hl'|exact Lent.h3 hl');(simp only [cut,List.drop_succ_cons,List.drop_zero,List.take_succ_cons,List.take_zero];rfl);rfl;(refine apk ?_))|((with_reducible refine swo_isCall 36 ?_);(first|(refine acl Tryz.func36 ?_;refine acr (hlo.up hl'.1) ?_;rintro v' H' ⟨v,hv1,hv2,hv3,rfl,rfl⟩;refine apl ?_)|(refine acl Tryz.func36 ?_;refine acr (hlo2.up hl'.1) ?_;rintro v' H' ⟨z,hz1,hz2,hz3,rfl,rfl⟩;refine apl ?_)))|((with_reducible apply kx_storeN);exact ty_size;rfl;rfl;rfl;(exact qsw);exact encI_one hv3;(exact qst);(refine apk ?_))|((with_reducible apply kx_storeN);exact ty_size;rfl;rfl;rfl;(exact qsw);exact encI_one hz3;(exact qst);(refine apk ?_))|((with_reducible apply sw_lendQ (c:= .region 4 _ _) (A:=IC r v));(with_reducible (exact atk));intro r8 g8 hr8 hg8 hA8;have hI8:=hA8 r8 hr8 hg8)|((with_reducible apply sw_lendQ (c:= .region 4 _ _) (A:=IC r z));(with_reducible (exact atk));intro r9 g9 hr9 hg9 hA9;have hI9:=hA9 r9 (Sx.sub.trans hr8 hr9) hg9)|((with_reducible apply sw_drawM (id:=4) 20 (Pm.seg [(0,true),(1,true),(2,true),(3,true),(6,true),(7,true),(8,true),(9,true),(12,true),(13,true),(14,true),(15,true)] (Pm.three 4 10 16 (Pm.seg [] (Pm.three 5 10 16 (Pm.seg [] (Pm.two 10 16 (Pm.seg [] (Pm.two 11 16 (Pm.seg [(16,false),(17,false),(18,true),(19,false)] Pm.leaf) (Pm.seg [(11,false),(17,false),(18,true),(19,false)] Pm.leaf))) (Pm.seg [(10,false),(11,false),(17,false),(18,true),(19,false)] Pm.leaf))) (Pm.seg [] (Pm.two 5 16 (Pm.seg [] (Pm.two 11 16 (Pm.seg [(16,false),(17,false),(18,true),(19,false)] Pm.leaf) (Pm.seg [(11,false),(17,false),(18,true),(19,false)] Pm.leaf))) (Pm.seg [(5,false),(11,false),(17,false),(18,true),(19,false)] Pm.leaf))) (Pm.seg [] (Pm.two 5 10 (Pm.seg [(10,false),(11,false),(17,false),(18,true),(19,false)] Pm.leaf) (Pm.seg [(5,false),(11,false),(17,false),(18,true),(19,false)] Pm.leaf))))) (Pm.seg [] (Pm.two 4 16 (Pm.seg [] (Pm.two 5 16 (Pm.seg [] (Pm.two 11 16 (Pm.seg [(16,false),(17,false),(18,true),(19,false)] Pm.leaf) (Pm.seg [(11,false),(17,false),(18,true),(19,false)] Pm.leaf))) (Pm.seg [(5,false),(11,false),(17,false),(18,true),(19,false)] Pm.leaf))) (Pm.seg [(4,false),(5,false),(11,false),(17,false),(18,true),(19,false)] Pm.leaf))) (Pm.seg [] (Pm.two 4 10 (Pm.seg [] (Pm.two 5 10 (Pm.seg [(10,false),(11,false),(17,false),(18,true),(19,false)] Pm.leaf) (Pm.seg [(5,false),(11,false),(17,false),(18,true),(19,false)] Pm.leaf))) (Pm.seg [(4,false),(5,false),(11,false),(17,false),(18,true),(19,false)] Pm.leaf))))) (List.replicate 20 true++List.replicate 1 false).toArray [(20,false)] [(b2,.cells [.bool v.known,.slice v.ea v.ex.length v.ec,.slice v.pa v.pre.length v.pc,.slice v.sa v.suf.length v.sc,.int .i64 v.q.kind,v.q.gv,v.q.sv].toArray 40 (0,0)),(b3,.cells [.bool z.known,.slice z.ea z.ex.length z.ec,.slice z.pa z.pre.length z.pc,.slice z.sa z.suf.length z.sc,.int .i64 z.q.kind,z.q.gv,z.q.sv].toArray 40 (0,0))]);kernel_rfl;(exact atks);kernel_rfl;intro r' hl')|(with_reducible refine tm_leaf ?_)|(with_reducible refine tm_seg ?_)|(with_reducible refine tm_two ?_ ?_)|(with_reducible refine tm_three ?_ ?_ ?_)|((with_reducible apply kx_bsL (d:=some 33));exact ty_el;exact ty_inf;rfl;rfl;rfl;(exact qcs);rfl;intro b33;(refine apk ?_))|((with_reducible apply kx_bsL (d:=some 39));exact ty_el;exact ty_inf;rfl;rfl;rfl;(exact qcs);rfl;intro b39;(refine apk ?_))|((with_reducible apply kx_bsL (d:=some 45));exact ty_el;exact ty_inf;rfl;rfl;rfl;(exact qcs);rfl;intro b45;(refine apk ?_))|((with_reducible refine swo_isCall 78 ?_);(first|(refine acl Tryz.func78 ?_;refine acr (hcp r' v z hv1 hz1 (hI8.mono (Sx.sub.trans hr9 hl'.1)) (hI9.mono hl'.1) b33) ?_;rintro v' H' ⟨a7,c7,rfl,rfl⟩;refine apl ?_)|(refine acl Tryz.func78 ?_;refine acr (hcs r' v z hv1 hz1 (hI8.mono (Sx.sub.trans hr9 hl'.1)) (hI9.mono hl'.1) b39) ?_;rintro v' H' ⟨a8,c8,rfl,rfl⟩;refine apl ?_)))|(refine acl Tryz.func66 ?_;refine acr (hor r' v z hv1 hz1 (hI8.mono (Sx.sub.trans hr9 hl'.1)) (hI9.mono hl'.1) b45 (Sx.sub.trans hr8 (Sx.sub.trans hr9 hl'.1))) ?_;rintro v' H' ⟨qm,hqm1,hqm2,rfl,rfl⟩;refine apl ?_)|((with_reducible apply kx_storeN);exact ty_size;rfl;rfl;rfl;(exact qsw);exact h7_one _ _ _ _ _ _ _ _ _ _ _ hqm2;(exact qst);(refine apk ?_))|((with_reducible refine swo_isCall 46 ?_);(refine swo_joinA (As:=[TxC a7 c7 (v.pre++z.pre),TxC a8 c8 (v.suf++z.suf),OwnQ qm]) (D:=OwnI ⟨false,none,0,[],a7,c7,v.pre++z.pre,a8,c8,v.suf++z.suf,qm⟩) atks (fun h e=>own_three h e) ?_);(refine acl Tryz.func46 ?_;refine acr (hs r' v z hv1 hz1 a7 c7 a8 c8 qm (Sx.sub.trans hr8 (Sx.sub.trans hr9 hl'.1)) hqm1 hqm2) ?_;rintro v' H' ⟨u,hu1,hu2,rfl,rfl⟩;refine apl ?_))|((with_reducible apply kx_storeN);exact ty_size;rfl;rfl;rfl;(exact qsw);exact encI_one hu2;(exact qst);(refine apk ?_))|exact xf|refine aw0 ?_|(refine ap2 ?_ ?_<;>try intro h)|refine aw1 ?_|(refine abx ?_;intro bb)|(refine abz ?_;intro bz)|(refine ahv ?_;intro v' hv')|(refine aac ?_;intro ac cc)|refine aw2 ?_|(refine ap4 ?_ ?_<;>try intro h)|apply True.intro)
   all_goals
    ((with_reducible apply fp_ret);exact res_W rfl rfl atk ty_agg ty_size rfl)
    exact HR.out _ _ _ [OwnI u] atks ⟨u,hu1,hu2,rfl,rfl⟩
theorem orO_any:OrT:=fun r hT i b oi ob hf=>Tri.frz fun r1 g1 s1 t1 h1=>Tri.frz fun r2 g2 s2 t2 h2=>by
 by_cases h:i.known=true/\b.known=true
 · exact orK_any r2 (hT.mono (Sx.sub.trans s1 s2)) i b ((ownI_read h1 t1).mono s2) (ownI_read h2 t2) oi ob hf h.1 h.2
 · exact orU_any r2 (hT.mono (Sx.sub.trans s1 s2)) i b ((ownI_read h1 t1).mono s2) (ownI_read h2 t2) oi ob hf h
end Go.Proofs.YteknekiclhnkiaaGreatDoor
