/- know.Behind: its contract. -/
import Derived.Test.YteknekiclhnkiaaGreatDoorOh
set_option maxHeartbeats 8000000
set_option maxRecDepth 10000
namespace Go.Proofs.YteknekiclhnkiaaGreatDoor
open Go.RowKit Sx
theorem own_two {a:Option Addr} {c:Nat} {X:List Tx} {q:QuV} : ∀ h,all [TxC a c X,OwnQ q] h->OwnI ⟨true,a,c,X,none,0,[],none,0,[],q⟩ h:=fun h e=>by
 obtain ⟨g1,g2,d,rfl,h1,h2⟩:=e
 exact ⟨g1,g2,d,rfl,h1,emp,g2,emp_dj,emp_un.symm,RowC.nil _ _,emp,g2,emp_dj,emp_un.symm,RowC.nil _ _,h2⟩
theorem own_three {a1 a2:Option Addr} {c1 c2:Nat} {X Y:List Tx} {q:QuV} : ∀ h,all [TxC a1 c1 X,TxC a2 c2 Y,OwnQ q] h->OwnI ⟨false,none,0,[],a1,c1,X,a2,c2,Y,q⟩ h:=fun h e=>⟨emp,h,emp_dj,emp_un.symm,RowC.nil _ _,e⟩
theorem settledO_any (r:Hp) (hT:TabR r) (i:InfV) (hf:FitI i.key) (hz:sizeQ i.key.m<=5000000) (ho:(encQ i.q).all one?=true):Tri Tryz.prog r 46 [.agg [.bool i.known,.slice i.ea i.ex.length i.ec,.slice i.pa i.pre.length i.pc,.slice i.sa i.suf.length i.sc,.int .i64 i.q.kind,i.q.gv,i.q.sv].toArray] [OwnI i] fun w H => ∃ i':InfV,i'.key=settledK i.key/\(encQ i'.q).all one?=true/\w = .agg [.bool i'.known,.slice i'.ea i'.ex.length i'.ec,.slice i'.pa i'.pre.length i'.pc,.slice i'.sa i'.suf.length i'.sc,.int .i64 i'.q.kind,i'.q.gv,i'.q.sv].toArray/\H=[OwnI i']:=by
 by_cases hn:i.known=true/\smallK (rowT i.ex)=true
 · refine Tri.weak (tri_cv (Tri.lendI (R:=fun _ w H => ∃ a c,w = .agg [.bool true,.slice a (rowT i.ex).length c,.slice none 0 0,.slice none 0 0,.int .i64 i.q.kind,i.q.gv,i.q.sv].toArray/\H=[TxC a c (rowT i.ex)]) fun r' g s1 s2 _ h1=>settledS_any r' i (ownI_read h1 s2) hf ho hn.1 hn.2) ?_)
   rintro w H ⟨r',g,H'',s1,s2,h1,⟨a,c,rfl,rfl⟩,rfl⟩
   refine ⟨[OwnI ⟨true,a,c,rowT i.ex,none,0,[],none,0,[],i.q⟩,all [TxC i.ea i.ec i.ex,TxC i.pa i.pc i.pre,TxC i.sa i.sc i.suf]],⟨[all [TxC i.ea i.ec i.ex,TxC i.pa i.pc i.pre,TxC i.sa i.sc i.suf]],[OwnI ⟨true,a,c,rowT i.ex,none,0,[],none,0,[],i.q⟩],by (exact atks),⟨⟨true,a,c,rowT i.ex,none,0,[],none,0,[],i.q⟩,?_,ho,rfl,rfl⟩⟩,fun k hk=>?_⟩
   · unfold settledK
     rw [if_pos (show i.key.known=true/\smallK (rowT i.key.ex)=true from hn)];rfl
   · obtain ⟨g1,g2,d,rfl,rfl,h2⟩:=hk
     have e:all ([TxC i.ea i.ec i.ex,TxC i.pa i.pc i.pre,TxC i.sa i.sc i.suf,OwnQ i.q]++[TxC a c (rowT i.ex)]) (un g1 g2):=all_app.2 ⟨g1,g2,d,rfl,h1,h2⟩
     have p:([TxC i.ea i.ec i.ex,TxC i.pa i.pc i.pre,TxC i.sa i.sc i.suf,OwnQ i.q]++[TxC a c (rowT i.ex)]).Perm ([TxC a c (rowT i.ex),OwnQ i.q]++[TxC i.ea i.ec i.ex,TxC i.pa i.pc i.pre,TxC i.sa i.sc i.suf]):=by
      refine (List.perm_append_comm (l₁:=[TxC i.ea i.ec i.ex,TxC i.pa i.pc i.pre,TxC i.sa i.sc i.suf]) (l₂:=[OwnQ i.q,TxC a c (rowT i.ex)])).trans ?_
      exact List.Perm.swap _ _ _
     obtain ⟨x,y,d2,e2,hx,hy⟩:=all_app.1 (all_perm p e)
     rw [e2]
     exact ⟨x,y,d2,rfl,own_two x hx,all_one.2 hy⟩
 · refine Tri.weak (tri_cv (Tri.lendI (R:=fun _ w H => ∃ i':InfV,i'.key=settledK i.key/\(encQ i'.q).all one?=true/\w = .agg [.bool i'.known,.slice i'.ea i'.ex.length i'.ec,.slice i'.pa i'.pre.length i'.pc,.slice i'.sa i'.suf.length i'.sc,.int .i64 i'.q.kind,i'.q.gv,i'.q.sv].toArray/\H=[OwnI i']) fun r' g s1 s2 _ h1=>settledL_any r' (hT.mono s1) i (ownI_read h1 s2) hf hz ho hn) ?_)
   rintro w H ⟨r',g,H'',s1,s2,h1,⟨i',hk,ho',rfl,rfl⟩,rfl⟩
   exact ⟨_,⟨[fun x=>x=g],[OwnI i'],by (exact atks),⟨i',hk,ho',rfl,rfl⟩⟩,fun k hk=>hk⟩
structure SmI (i:InfK):Prop where
 ex:i.ex.length<=3000
 pre:i.pre.length<=3000
 suf:i.suf.length<=3000
theorem sizeT_le {l:List Tx} (h:sizeT l<=100000) : ∀ x∈l,x.length<=1000000:=fun x hx=>by have:=sizeT_mem hx;omega
theorem front_any (r:Hp) (i b:InfV) (hi:InfR r i) (hb:InfR r b) (fi:FitI i.key) (fb:FitI b.key) (si:SmI i.key) (sb:SmI b.key):Tri Tryz.prog r 76 [.agg [.bool i.known,.slice i.ea i.ex.length i.ec,.slice i.pa i.pre.length i.pc,.slice i.sa i.suf.length i.sc,.int .i64 i.q.kind,i.q.gv,i.q.sv].toArray,.agg [.bool b.known,.slice b.ea b.ex.length b.ec,.slice b.pa b.pre.length b.pc,.slice b.sa b.suf.length b.sc,.int .i64 b.q.kind,b.q.gv,b.q.sv].toArray] [] fun w H => ∃ a c,w = .slice a (frontK i.key b.key).length c/\H=[TxC a c (frontK i.key b.key)]:=by
 have hl:=sizeT_len i.pre
 have f1:=fi.pre
 dsimp only [InfV.key] at f1
 have hro:=row_any r _ i.pre hi.pre (by omega)
 have hc1:=cross_any r _ _ i.ex b.ex hi.ex hb.ex si.ex sb.ex (sizeT_le fi.ex) (sizeT_le fb.ex)
 have hc2:=cross_any r _ _ i.ex b.pre hi.ex hb.pre si.ex sb.pre (sizeT_le fi.ex) (sizeT_le fb.pre)
 have hfr:frontK i.key b.key=if i.known then (if b.known then crossT i.ex b.ex else crossT i.ex b.pre) else rowT i.pre:=rfl
 obtain ⟨known,ea,ec,ex,pa,pc,pre,sa,sc,suf,q⟩:=i
 obtain ⟨known2,ea2,ec2,ex2,pa2,pc2,pre2,sa2,sc2,suf2,q2⟩:=b
 dsimp only at hro hc1 hc2 hfr ⊢
 rw [hfr]
 clear hi hb fi fb si sb hl f1 hfr
 refine Tri.free2 fun R HR=>?_
 cases known
 · simp only [Bool.false_eq_true,if_false] at HR
   refine ae Tryz.func76 Tryz.ntmps76 ?_
   repeat' (first|((with_reducible apply kx_box);rfl;(exact qcl);intro b1;(refine apk ?_))|(refine acl Tryz.func48 ?_;refine acr (hro) ?_;rintro v' H' ⟨a,c,rfl,rfl⟩;refine apl ?_)|exact xf|refine aw0 ?_|(refine ap2 ?_ ?_<;>try intro h)|refine aw1 ?_|(refine abx ?_;intro bb)|(refine abz ?_;intro bz)|(refine ahv ?_;intro v' hv')|(refine aac ?_;intro ac cc)|refine aw2 ?_|(refine ap4 ?_ ?_<;>try intro h)|apply True.intro)
   ((with_reducible apply fp_ret);exact res_1 rfl rfl)
   exact HR.out _ _ _ [TxC a c (rowT pre)] atks ⟨a,c,rfl,rfl⟩
 · cases known2
   · simp only [Bool.false_eq_true,if_false,if_true] at HR
     refine ae Tryz.func76 Tryz.ntmps76 ?_
     repeat' (first|((with_reducible apply kx_box);rfl;(exact qcl);intro b1;(refine apk ?_))|(refine acl Tryz.func75 ?_;refine acr (hc2) ?_;rintro v' H' ⟨a,c,rfl,rfl⟩;refine apl ?_)|exact xf|refine aw0 ?_|(refine ap2 ?_ ?_<;>try intro h)|refine aw1 ?_|(refine abx ?_;intro bb)|(refine abz ?_;intro bz)|(refine ahv ?_;intro v' hv')|(refine aac ?_;intro ac cc)|refine aw2 ?_|(refine ap4 ?_ ?_<;>try intro h)|apply True.intro)
     ((with_reducible apply fp_ret);exact res_1 rfl rfl)
     exact HR.out _ _ _ [TxC a c (crossT ex pre2)] atks ⟨a,c,rfl,rfl⟩
   · simp only [if_true] at HR
     refine ae Tryz.func76 Tryz.ntmps76 ?_
     repeat' (first|((with_reducible apply kx_box);rfl;(exact qcl);intro b1;(refine apk ?_))|(refine acl Tryz.func75 ?_;refine acr (hc1) ?_;rintro v' H' ⟨a,c,rfl,rfl⟩;refine apl ?_)|exact xf|refine aw0 ?_|(refine ap2 ?_ ?_<;>try intro h)|refine aw1 ?_|(refine abx ?_;intro bb)|(refine abz ?_;intro bz)|(refine ahv ?_;intro v' hv')|(refine aac ?_;intro ac cc)|refine aw2 ?_|(refine ap4 ?_ ?_<;>try intro h)|apply True.intro)
     ((with_reducible apply fp_ret);exact res_1 rfl rfl)
     exact HR.out _ _ _ [TxC a c (crossT ex ex2)] atks ⟨a,c,rfl,rfl⟩
theorem back_any (r:Hp) (i b:InfV) (hi:InfR r i) (hb:InfR r b) (fi:FitI i.key) (fb:FitI b.key) (si:SmI i.key) (sb:SmI b.key):Tri Tryz.prog r 77 [.agg [.bool i.known,.slice i.ea i.ex.length i.ec,.slice i.pa i.pre.length i.pc,.slice i.sa i.suf.length i.sc,.int .i64 i.q.kind,i.q.gv,i.q.sv].toArray,.agg [.bool b.known,.slice b.ea b.ex.length b.ec,.slice b.pa b.pre.length b.pc,.slice b.sa b.suf.length b.sc,.int .i64 b.q.kind,b.q.gv,b.q.sv].toArray] [] fun w H => ∃ a c,w = .slice a (backK i.key b.key).length c/\H=[TxC a c (backK i.key b.key)]:=by
 have hl:=sizeT_len i.suf
 have f1:=fi.suf
 dsimp only [InfV.key] at f1
 have hro:=row_any r _ i.suf hi.suf (by omega)
 have hc1:=cross_any r _ _ b.suf i.ex hb.suf hi.ex sb.suf si.ex (sizeT_le fb.suf) (sizeT_le fi.ex)
 have hfr:backK i.key b.key=if i.known then crossT b.suf i.ex else rowT i.suf:=rfl
 obtain ⟨known,ea,ec,ex,pa,pc,pre,sa,sc,suf,q⟩:=i
 obtain ⟨known2,ea2,ec2,ex2,pa2,pc2,pre2,sa2,sc2,suf2,q2⟩:=b
 dsimp only at hro hc1 hfr ⊢
 rw [hfr]
 clear hi hb fi fb si sb hl f1 hfr
 refine Tri.free2 fun R HR=>?_
 cases known
 · simp only [Bool.false_eq_true,if_false] at HR
   refine ae Tryz.func77 Tryz.ntmps77 ?_
   repeat' (first|((with_reducible apply kx_box);rfl;(exact qcl);intro b1;(refine apk ?_))|(refine acl Tryz.func48 ?_;refine acr (hro) ?_;rintro v' H' ⟨a,c,rfl,rfl⟩;refine apl ?_)|exact xf|refine aw0 ?_|(refine ap2 ?_ ?_<;>try intro h)|refine aw1 ?_|(refine abx ?_;intro bb)|(refine abz ?_;intro bz)|(refine ahv ?_;intro v' hv')|(refine aac ?_;intro ac cc)|refine aw2 ?_|(refine ap4 ?_ ?_<;>try intro h)|apply True.intro)
   ((with_reducible apply fp_ret);exact res_1 rfl rfl)
   exact HR.out _ _ _ [TxC a c (rowT suf)] atks ⟨a,c,rfl,rfl⟩
 · simp only [if_true] at HR
   refine ae Tryz.func77 Tryz.ntmps77 ?_
   repeat' (first|((with_reducible apply kx_box);rfl;(exact qcl);intro b1;(refine apk ?_))|(refine acl Tryz.func75 ?_;refine acr (hc1) ?_;rintro v' H' ⟨a,c,rfl,rfl⟩;refine apl ?_)|exact xf|refine aw0 ?_|(refine ap2 ?_ ?_<;>try intro h)|refine aw1 ?_|(refine abx ?_;intro bb)|(refine abz ?_;intro bz)|(refine ahv ?_;intro v' hv')|(refine aac ?_;intro ac cc)|refine aw2 ?_|(refine ap4 ?_ ?_<;>try intro h)|apply True.intro)
   ((with_reducible apply fp_ret);exact res_1 rfl rfl)
   exact HR.out _ _ _ [TxC a c (crossT suf2 ex)] atks ⟨a,c,rfl,rfl⟩
def outI (a b:InfK):InfK:=if a.known=true/\b.known=true then ⟨true,frontK a b,[],[],andQ [a.m,b.m,betweenK a b]⟩ else ⟨false,[],frontK a b,backK b a,andQ [a.m,b.m,betweenK a b]⟩
theorem behind_out (a b:InfK):behindI a b=settledK (outI a b):=by
 unfold behindI outI
 split<;>rfl
structure FitB (a b:InfK):Prop where
 fa:FitI a
 fb:FitI b
 sa:SmI a
 sb:SmI b
 fo:FitI (outI a b)
 om:sizeQ (outI a b).m<=5000000
 be:sizeT (crossT a.suf b.pre)<=100000
 sm:sizeQ a.m+sizeQ b.m<=6000000
theorem between_ok (a b:InfK) (h:sizeT (crossT a.suf b.pre)<=100000):rightQ (betweenK a b)=true/\sizeQ (betweenK a b)<=400001:=by
 unfold betweenK
 split
 · exact ⟨right_gramsRow _,by have:=size_gramsRow (crossT a.suf b.pre);omega⟩
 · exact ⟨right_all,by simp [allQ,sizeQ,sizeT,sizeQs]⟩
theorem behind_any (r:Hp) (hT:TabR r) (i b:InfV) (hi:InfR r i) (hb:InfR r b) (oi:(encQ i.q).all one?=true) (ob:(encQ b.q).all one?=true) (hf:FitB i.key b.key):Tri Tryz.prog r 44 [.agg [.bool i.known,.slice i.ea i.ex.length i.ec,.slice i.pa i.pre.length i.pc,.slice i.sa i.suf.length i.sc,.int .i64 i.q.kind,i.q.gv,i.q.sv].toArray,.agg [.bool b.known,.slice b.ea b.ex.length b.ec,.slice b.pa b.pre.length b.pc,.slice b.sa b.suf.length b.sc,.int .i64 b.q.kind,b.q.gv,b.q.sv].toArray] [] fun w H => ∃ u:InfV,u.key=behindI i.key b.key/\(encQ u.q).all one?=true/\w = .agg [.bool u.known,.slice u.ea u.ex.length u.ec,.slice u.pa u.pre.length u.pc,.slice u.sa u.suf.length u.sc,.int .i64 u.q.kind,u.q.gv,u.q.sv].toArray/\H=[OwnI u]:=by
 obtain ⟨hbr,hbz⟩:=between_ok i.key b.key hf.be
 have hall:=kall_any r hT
 have hcr:=cross_any r _ _ i.suf b.pre hi.suf hb.pre hf.sa.suf hf.sb.pre (sizeT_le hf.fa.suf) (sizeT_le hf.fb.pre)
 have hgr : ∀ r' g (a:Option Addr) (c:Nat),sub r r'->sub g r'->TxC a c (crossT i.suf b.pre) g->Tri Tryz.prog r' 38 [.slice a (crossT i.suf b.pre).length c] [] fun w H => ∃ q:QuV,q.key=gramsRow (crossT i.suf b.pre)/\(encQ q).all one?=true/\w = .agg [.int .i64 q.kind,q.gv,q.sv].toArray/\H=[OwnQ q]:=fun r' g a c s1 s2 h=>kgrams_any r' (hT.mono s1) _ _ (txC_els h s2) (Nat.le_trans hf.be (by omega))
 have han : ∀ r' bz g1 (q1:QuV),q1.key=betweenK i.key b.key->sub r r'->OwnQ q1 g1->sub g1 r'->r' bz=some (.cells [.int .i64 i.q.kind,i.q.gv,i.q.sv,.int .i64 b.q.kind,b.q.gv,b.q.sv,.int .i64 q1.kind,q1.gv,q1.sv].toArray 38 (0,0))->Tri Tryz.prog r' 37 [.slice (some ⟨bz,0,none⟩) 3 3] [] fun w H => ∃ u:QuV,u.key=andQ [i.q.key,b.q.key,betweenK i.key b.key]/\(encQ u).all one?=true/\w = .agg [.int .i64 u.kind,u.gv,u.sv].toArray/\H=[OwnQ u]:=fun r' bz g1 q1 k1 s1 h1 s2 h2=>by
  have hm:=hf.sm
  have h:=and3_any r' (hT.mono s1) bz i.q b.q q1 (hi.q.mono s1) (hb.q.mono s1) (own_read h1 s2) h2 hf.fa.right hf.fb.right (by rw [k1];exact hbr) (by
   rw [k1]
   have:sizeQ i.q.key+sizeQ b.q.key<=6000000:=hm
   omega)
  rw [k1] at h
  exact h
 have hgF:=fun (a:Option Addr) (c:Nat)=>Tri.frz (A:=TxC a c (crossT i.suf b.pre)) fun r' g s1 s2 h=>hgr r' g a c s1 s2 h
 have hanF:=fun (bz:Nat) (q1:QuV) (k1:q1.key=betweenK i.key b.key)=>Tri.frz (r:=r) (A:=pt bz (.cells [.int .i64 i.q.kind,i.q.gv,i.q.sv,.int .i64 b.q.kind,b.q.gv,b.q.sv,.int .i64 q1.kind,q1.gv,q1.sv].toArray 38 (0,0))) fun r1 g1 s1 t1 h1=>Tri.frz (A:=OwnQ q1) fun r2 g2 s2 t2 h2=>han r2 bz g2 q1 k1 (Sx.sub.trans s1 s2) h2 t2 (s2 _ _ (t1 _ _ (by rw [show g1=Sx.one bz _ from h1];exact Sx.one_same)))
 have hfr:=front_any r i b hi hb hf.fa hf.fb hf.sa hf.sb
 have hba:=back_any r b i hb hi hf.fb hf.fa hf.sb hf.sa
 have hsK:i.known=true/\b.known=true -> ∀ a1 c1 (qm:QuV),qm.key=andQ [i.q.key,b.q.key,betweenK i.key b.key]->(encQ qm).all one?=true->Tri Tryz.prog r 46 [.agg [.bool true,.slice a1 (frontK i.key b.key).length c1,.slice none 0 0,.slice none 0 0,.int .i64 qm.kind,qm.gv,qm.sv].toArray] [OwnI ⟨true,a1,c1,frontK i.key b.key,none,0,[],none,0,[],qm⟩] fun w H => ∃ u:InfV,u.key=behindI i.key b.key/\(encQ u.q).all one?=true/\w = .agg [.bool u.known,.slice u.ea u.ex.length u.ec,.slice u.pa u.pre.length u.pc,.slice u.sa u.suf.length u.sc,.int .i64 u.q.kind,u.q.gv,u.q.sv].toArray/\H=[OwnI u]:=fun hk a1 c1 qm k1 o1=>by
  have e:InfV.key ⟨true,a1,c1,frontK i.key b.key,none,0,[],none,0,[],qm⟩=outI i.key b.key:=by
   unfold outI
   rw [if_pos (show i.key.known=true/\b.key.known=true from hk)]
   show InfK.mk _ _ _ _ _=_
   rw [k1];rfl
  have h:=settledO_any r hT ⟨true,a1,c1,frontK i.key b.key,none,0,[],none,0,[],qm⟩ (by rw [e];exact hf.fo) (by rw [e];exact hf.om) o1
  rw [e,← behind_out] at h
  exact h
 have hsU:¬ (i.known=true/\b.known=true) -> ∀ a1 c1 a2 c2 (qm:QuV),qm.key=andQ [i.q.key,b.q.key,betweenK i.key b.key]->(encQ qm).all one?=true->Tri Tryz.prog r 46 [.agg [.bool false,.slice none 0 0,.slice a1 (frontK i.key b.key).length c1,.slice a2 (backK b.key i.key).length c2,.int .i64 qm.kind,qm.gv,qm.sv].toArray] [OwnI ⟨false,none,0,[],a1,c1,frontK i.key b.key,a2,c2,backK b.key i.key,qm⟩] fun w H => ∃ u:InfV,u.key=behindI i.key b.key/\(encQ u.q).all one?=true/\w = .agg [.bool u.known,.slice u.ea u.ex.length u.ec,.slice u.pa u.pre.length u.pc,.slice u.sa u.suf.length u.sc,.int .i64 u.q.kind,u.q.gv,u.q.sv].toArray/\H=[OwnI u]:=fun hk a1 c1 a2 c2 qm k1 o1=>by
  have e:InfV.key ⟨false,none,0,[],a1,c1,frontK i.key b.key,a2,c2,backK b.key i.key,qm⟩=outI i.key b.key:=by
   unfold outI
   rw [if_neg (show ¬ (i.key.known=true/\b.key.known=true) from hk)]
   show InfK.mk _ _ _ _ _=_
   rw [k1];rfl
  have h:=settledO_any r hT ⟨false,none,0,[],a1,c1,frontK i.key b.key,a2,c2,backK b.key i.key,qm⟩ (by rw [e];exact hf.fo) (by rw [e];exact hf.om) o1
  rw [e,← behind_out] at h
  exact h
 have hbt:betweenK i.key b.key=if i.known=false/\b.known=false then gramsRow (crossT i.suf b.pre) else allQ:=rfl
 obtain ⟨B,hB⟩ : ∃ B,betweenK i.key b.key=B:=⟨_,rfl⟩
 obtain ⟨F,hF⟩ : ∃ F,frontK i.key b.key=F:=⟨_,rfl⟩
 obtain ⟨S,hS⟩ : ∃ S,backK b.key i.key=S:=⟨_,rfl⟩
 obtain ⟨C,hC⟩ : ∃ C,crossT i.suf b.pre=C:=⟨_,rfl⟩
 obtain ⟨Z,hZ⟩ : ∃ Z,behindI i.key b.key=Z:=⟨_,rfl⟩
 rw [hB] at hanF hsK hsU hbt
 rw [hF] at hfr hsK hsU
 rw [hS] at hba hsU
 rw [hC] at hcr hgF hbt
 rw [hZ] at hsK hsU ⊢
 clear hB hF hS hC hZ hf hi hb hbr hbz han hgr
 obtain ⟨known,ea,ec,ex,pa,pc,pre,sa,sc,suf,q⟩:=i
 obtain ⟨known2,ea2,ec2,ex2,pa2,pc2,pre2,sa2,sc2,suf2,q2⟩:=b
 dsimp only at hcr hfr hba hbt hanF hsK hsU oi ob ⊢
 have h7 : ∀ k a1 n1 c1 a2 n2 c2 a3 n3 c3 (q:QuV),(encQ q).all one?=true->([.bool k,.slice a1 n1 c1,.slice a2 n2 c2,.slice a3 n3 c3,.int .i64 q.kind,q.gv,q.sv]:List Value).all one?=true:=fun k a1 n1 c1 a2 n2 c2 a3 n3 c3 q ho=>by
  have h':=one3 ho
  simp only [List.all_cons,Bool.and_eq_true] at h' ⊢
  exact ⟨rfl,rfl,rfl,rfl,h'⟩
 refine Tri.free2 fun R HR=>?_
 refine ae Tryz.func44 Tryz.ntmps44 ?_
 cases known<;>cases known2
 · rw [if_pos ⟨rfl,rfl⟩] at hbt
   subst hbt
   have hst:=hsU (by simp)
   clear hsK hsU
   repeat' (first|((with_reducible apply kx_box (v:= .agg [.bool false,.slice ea ex.length ec,.slice pa pre.length pc,.slice sa suf.length sc,.int .i64 q.kind,q.gv,q.sv].toArray));rfl;(exact qcl);intro b2;(refine apk ?_))|((with_reducible apply kx_box (v:= .agg [.bool false,.slice ea2 ex2.length ec2,.slice pa2 pre2.length pc2,.slice sa2 suf2.length sc2,.int .i64 q2.kind,q2.gv,q2.sv].toArray));rfl;(exact qcl);intro b3;(refine apk ?_))|((with_reducible apply kx_alloc (E:=40));exact ty_zero;(exact qcl);intro b4;(refine apk ?_))|exact xf|refine aw0 ?_|(refine ap2 ?_ ?_<;>try intro h)|refine aw1 ?_|(refine abx ?_;intro bb)|(refine abz ?_;intro bz)|(refine ahv ?_;intro v' hv')|(refine aac ?_;intro ac cc)|refine aw2 ?_|(refine ap4 ?_ ?_<;>try intro h)|apply True.intro)
   repeat' (first|(refine acl Tryz.func49 ?_;refine acr (hall) ?_;rintro v' H' ⟨q0,hq1,hq2,rfl,rfl⟩;refine apl ?_)|((with_reducible apply kx_alloc (E:=38));exact ty_zero;(exact qcl);intro b5;(refine apk ?_))|((with_reducible apply kx_alloc (E:=40));exact ty_zero;(exact qcl);intro b6;(refine apk ?_))|(refine acl Tryz.func75 ?_;refine acr (hcr) ?_;rintro v' H' ⟨a9,c9,rfl,rfl⟩;refine apl ?_)|(refine acl Tryz.func38 ?_;refine acr (hgF a9 c9) ?_;rintro v' H' ⟨q9,hq91,hq92,rfl,rfl⟩;refine apl ?_)|((with_reducible apply kx_storeN);exact ty_size;rfl;rfl;rfl;(exact qsw);exact one3 hq92;(exact qst);(refine apk ?_))|((with_reducible apply kx_storeN);exact ty_size;rfl;rfl;rfl;(exact qsw);exact one3 hq2;(exact qst);(refine apk ?_))|((with_reducible apply kx_ldP);rfl;(exact atk);(simp only [cut,List.drop_succ_cons,List.drop_zero,List.take_succ_cons,List.take_zero];rfl);rfl;(refine apk ?_))|(first|((with_reducible apply kx_bs1);exact ty_el;exact ty_inf;rfl;rfl;rfl;intro bz;(refine apk ?_))|((with_reducible apply kx_bsN);exact ty_el;exact ty_inf;rfl;rfl;rfl;intro bz;(refine apk ?_)))|(refine acl Tryz.func37 ?_;refine acr (hanF bz q9 hq91) ?_;rintro v' H' ⟨qm,hqm1,hqm2,rfl,rfl⟩;refine apl ?_)|((with_reducible apply kx_storeN);exact ty_size;rfl;rfl;rfl;(exact qsw);exact h7 _ _ _ _ _ _ _ _ _ _ _ hqm2;(exact qst);(refine apk ?_))|((with_reducible apply sw_draw (id:=9) 8 [(0,true),(1,true),(3,true),(4,true),(2,false),(6,true),(5,false),(7,false)] [(8,false),(9,false)] [(b2,.cells [.bool false,.slice ea ex.length ec,.slice pa pre.length pc,.slice sa suf.length sc,.int .i64 q.kind,q.gv,q.sv].toArray 40 (0,0)),(b3,.cells [.bool false,.slice ea2 ex2.length ec2,.slice pa2 pre2.length pc2,.slice sa2 suf2.length sc2,.int .i64 q2.kind,q2.gv,q2.sv].toArray 40 (0,0))]);kernel_rfl;(exact atks);kernel_rfl;intro r' hl')|((with_reducible apply pi_pur);rfl;(exact qwt);(with_reducible apply pu_ldP);rfl;(first|assumption|exact Lent.h1 hl'|exact Lent.h2 hl'|exact Lent.h3 hl');(simp only [cut,List.drop_zero,List.take_succ_cons,List.take_zero];rfl);rfl;(refine apk ?_))|(refine acl Tryz.func76 ?_;refine acr (hfr.up hl'.1) ?_;rintro v' H' ⟨a7,c7,rfl,rfl⟩;refine apl ?_)|(refine acl Tryz.func77 ?_;refine acr (hba.up hl'.1) ?_;rintro v' H' ⟨a8,c8,rfl,rfl⟩;refine apl ?_)|((with_reducible refine swo_isCall 46 ?_);(refine swo_joinA (As:=[TxC a7 c7 F,TxC a8 c8 S,OwnQ qm]) (D:=OwnI ⟨false,none,0,[],a7,c7,F,a8,c8,S,qm⟩) atks (fun h e=>own_three h e) ?_);(refine acl Tryz.func46 ?_;refine acr (hst a7 c7 a8 c8 qm hqm1 hqm2) ?_;rintro v' H' ⟨u,hu1,hu2,rfl,rfl⟩;refine apl ?_))|((with_reducible apply kx_storeN);exact ty_size;rfl;rfl;rfl;(exact qsw);exact encI_one hu2;(exact qst);(refine apk ?_))|exact xf|refine aw0 ?_|(refine ap2 ?_ ?_<;>try intro h)|refine aw1 ?_|(refine abx ?_;intro bb)|(refine abz ?_;intro bz)|(refine ahv ?_;intro v' hv')|(refine aac ?_;intro ac cc)|refine aw2 ?_|(refine ap4 ?_ ?_<;>try intro h)|apply True.intro)
   ((with_reducible apply fp_ret);exact res_W rfl rfl atk ty_agg ty_size rfl)
   exact HR.out _ _ _ [OwnI u] atks ⟨u,hu1,hu2,rfl,rfl⟩
 · rw [if_neg (by simp)] at hbt
   subst hbt
   have hst:=hsU (by simp)
   clear hsK hsU
   repeat' (first|((with_reducible apply kx_box (v:= .agg [.bool false,.slice ea ex.length ec,.slice pa pre.length pc,.slice sa suf.length sc,.int .i64 q.kind,q.gv,q.sv].toArray));rfl;(exact qcl);intro b2;(refine apk ?_))|((with_reducible apply kx_box (v:= .agg [.bool true,.slice ea2 ex2.length ec2,.slice pa2 pre2.length pc2,.slice sa2 suf2.length sc2,.int .i64 q2.kind,q2.gv,q2.sv].toArray));rfl;(exact qcl);intro b3;(refine apk ?_))|((with_reducible apply kx_alloc (E:=40));exact ty_zero;(exact qcl);intro b4;(refine apk ?_))|exact xf|refine aw0 ?_|(refine ap2 ?_ ?_<;>try intro h)|refine aw1 ?_|(refine abx ?_;intro bb)|(refine abz ?_;intro bz)|(refine ahv ?_;intro v' hv')|(refine aac ?_;intro ac cc)|refine aw2 ?_|(refine ap4 ?_ ?_<;>try intro h)|apply True.intro)
   repeat' (first|(refine acl Tryz.func49 ?_;refine acr (hall) ?_;rintro v' H' ⟨q0,hq1,hq2,rfl,rfl⟩;refine apl ?_)|((with_reducible apply kx_alloc (E:=38));exact ty_zero;(exact qcl);intro b5;(refine apk ?_))|((with_reducible apply kx_alloc (E:=40));exact ty_zero;(exact qcl);intro b6;(refine apk ?_))|((with_reducible apply kx_storeN);exact ty_size;rfl;rfl;rfl;(exact qsw);exact one3 hq2;(exact qst);(refine apk ?_))|((with_reducible apply kx_ldP);rfl;(exact atk);(simp only [cut,List.drop_succ_cons,List.drop_zero,List.take_succ_cons,List.take_zero];rfl);rfl;(refine apk ?_))|(first|((with_reducible apply kx_bs1);exact ty_el;exact ty_inf;rfl;rfl;rfl;intro bz;(refine apk ?_))|((with_reducible apply kx_bsN);exact ty_el;exact ty_inf;rfl;rfl;rfl;intro bz;(refine apk ?_)))|(refine acl Tryz.func37 ?_;refine acr (hanF bz q0 hq1) ?_;rintro v' H' ⟨qm,hqm1,hqm2,rfl,rfl⟩;refine apl ?_)|((with_reducible apply kx_storeN);exact ty_size;rfl;rfl;rfl;(exact qsw);exact h7 _ _ _ _ _ _ _ _ _ _ _ hqm2;(exact qst);(refine apk ?_))|((with_reducible apply sw_draw (id:=9) 8 [(0,true),(1,true),(3,true),(4,true),(2,false),(6,true),(5,false),(7,false)] [(8,false),(9,false)] [(b2,.cells [.bool false,.slice ea ex.length ec,.slice pa pre.length pc,.slice sa suf.length sc,.int .i64 q.kind,q.gv,q.sv].toArray 40 (0,0)),(b3,.cells [.bool true,.slice ea2 ex2.length ec2,.slice pa2 pre2.length pc2,.slice sa2 suf2.length sc2,.int .i64 q2.kind,q2.gv,q2.sv].toArray 40 (0,0))]);kernel_rfl;(exact atks);kernel_rfl;intro r' hl')|((with_reducible apply pi_pur);rfl;(exact qwt);(with_reducible apply pu_ldP);rfl;(first|assumption|exact Lent.h1 hl'|exact Lent.h2 hl'|exact Lent.h3 hl');(simp only [cut,List.drop_zero,List.take_succ_cons,List.take_zero];rfl);rfl;(refine apk ?_))|(refine acl Tryz.func76 ?_;refine acr (hfr.up hl'.1) ?_;rintro v' H' ⟨a7,c7,rfl,rfl⟩;refine apl ?_)|(refine acl Tryz.func77 ?_;refine acr (hba.up hl'.1) ?_;rintro v' H' ⟨a8,c8,rfl,rfl⟩;refine apl ?_)|((with_reducible refine swo_isCall 46 ?_);(refine swo_joinA (As:=[TxC a7 c7 F,TxC a8 c8 S,OwnQ qm]) (D:=OwnI ⟨false,none,0,[],a7,c7,F,a8,c8,S,qm⟩) atks (fun h e=>own_three h e) ?_);(refine acl Tryz.func46 ?_;refine acr (hst a7 c7 a8 c8 qm hqm1 hqm2) ?_;rintro v' H' ⟨u,hu1,hu2,rfl,rfl⟩;refine apl ?_))|((with_reducible apply kx_storeN);exact ty_size;rfl;rfl;rfl;(exact qsw);exact encI_one hu2;(exact qst);(refine apk ?_))|exact xf|refine aw0 ?_|(refine ap2 ?_ ?_<;>try intro h)|refine aw1 ?_|(refine abx ?_;intro bb)|(refine abz ?_;intro bz)|(refine ahv ?_;intro v' hv')|(refine aac ?_;intro ac cc)|refine aw2 ?_|(refine ap4 ?_ ?_<;>try intro h)|apply True.intro)
   ((with_reducible apply fp_ret);exact res_W rfl rfl atk ty_agg ty_size rfl)
   exact HR.out _ _ _ [OwnI u] atks ⟨u,hu1,hu2,rfl,rfl⟩
 · rw [if_neg (by simp)] at hbt
   subst hbt
   have hst:=hsU (by simp)
   clear hsK hsU
   repeat' (first|((with_reducible apply kx_box (v:= .agg [.bool true,.slice ea ex.length ec,.slice pa pre.length pc,.slice sa suf.length sc,.int .i64 q.kind,q.gv,q.sv].toArray));rfl;(exact qcl);intro b2;(refine apk ?_))|((with_reducible apply kx_box (v:= .agg [.bool false,.slice ea2 ex2.length ec2,.slice pa2 pre2.length pc2,.slice sa2 suf2.length sc2,.int .i64 q2.kind,q2.gv,q2.sv].toArray));rfl;(exact qcl);intro b3;(refine apk ?_))|((with_reducible apply kx_alloc (E:=40));exact ty_zero;(exact qcl);intro b4;(refine apk ?_))|exact xf|refine aw0 ?_|(refine ap2 ?_ ?_<;>try intro h)|refine aw1 ?_|(refine abx ?_;intro bb)|(refine abz ?_;intro bz)|(refine ahv ?_;intro v' hv')|(refine aac ?_;intro ac cc)|refine aw2 ?_|(refine ap4 ?_ ?_<;>try intro h)|apply True.intro)
   repeat' (first|(refine acl Tryz.func49 ?_;refine acr (hall) ?_;rintro v' H' ⟨q0,hq1,hq2,rfl,rfl⟩;refine apl ?_)|((with_reducible apply kx_alloc (E:=38));exact ty_zero;(exact qcl);intro b5;(refine apk ?_))|((with_reducible apply kx_alloc (E:=40));exact ty_zero;(exact qcl);intro b6;(refine apk ?_))|((with_reducible apply kx_storeN);exact ty_size;rfl;rfl;rfl;(exact qsw);exact one3 hq2;(exact qst);(refine apk ?_))|((with_reducible apply kx_ldP);rfl;(exact atk);(simp only [cut,List.drop_succ_cons,List.drop_zero,List.take_succ_cons,List.take_zero];rfl);rfl;(refine apk ?_))|(first|((with_reducible apply kx_bs1);exact ty_el;exact ty_inf;rfl;rfl;rfl;intro bz;(refine apk ?_))|((with_reducible apply kx_bsN);exact ty_el;exact ty_inf;rfl;rfl;rfl;intro bz;(refine apk ?_)))|(refine acl Tryz.func37 ?_;refine acr (hanF bz q0 hq1) ?_;rintro v' H' ⟨qm,hqm1,hqm2,rfl,rfl⟩;refine apl ?_)|((with_reducible apply kx_storeN);exact ty_size;rfl;rfl;rfl;(exact qsw);exact h7 _ _ _ _ _ _ _ _ _ _ _ hqm2;(exact qst);(refine apk ?_))|((with_reducible apply sw_draw (id:=9) 8 [(0,true),(1,true),(3,true),(4,true),(2,false),(6,true),(5,false),(7,false)] [(8,false),(9,false)] [(b2,.cells [.bool true,.slice ea ex.length ec,.slice pa pre.length pc,.slice sa suf.length sc,.int .i64 q.kind,q.gv,q.sv].toArray 40 (0,0)),(b3,.cells [.bool false,.slice ea2 ex2.length ec2,.slice pa2 pre2.length pc2,.slice sa2 suf2.length sc2,.int .i64 q2.kind,q2.gv,q2.sv].toArray 40 (0,0))]);kernel_rfl;(exact atks);kernel_rfl;intro r' hl')|((with_reducible apply pi_pur);rfl;(exact qwt);(with_reducible apply pu_ldP);rfl;(first|assumption|exact Lent.h1 hl'|exact Lent.h2 hl'|exact Lent.h3 hl');(simp only [cut,List.drop_zero,List.take_succ_cons,List.take_zero];rfl);rfl;(refine apk ?_))|(refine acl Tryz.func76 ?_;refine acr (hfr.up hl'.1) ?_;rintro v' H' ⟨a7,c7,rfl,rfl⟩;refine apl ?_)|(refine acl Tryz.func77 ?_;refine acr (hba.up hl'.1) ?_;rintro v' H' ⟨a8,c8,rfl,rfl⟩;refine apl ?_)|((with_reducible refine swo_isCall 46 ?_);(refine swo_joinA (As:=[TxC a7 c7 F,TxC a8 c8 S,OwnQ qm]) (D:=OwnI ⟨false,none,0,[],a7,c7,F,a8,c8,S,qm⟩) atks (fun h e=>own_three h e) ?_);(refine acl Tryz.func46 ?_;refine acr (hst a7 c7 a8 c8 qm hqm1 hqm2) ?_;rintro v' H' ⟨u,hu1,hu2,rfl,rfl⟩;refine apl ?_))|((with_reducible apply kx_storeN);exact ty_size;rfl;rfl;rfl;(exact qsw);exact encI_one hu2;(exact qst);(refine apk ?_))|exact xf|refine aw0 ?_|(refine ap2 ?_ ?_<;>try intro h)|refine aw1 ?_|(refine abx ?_;intro bb)|(refine abz ?_;intro bz)|(refine ahv ?_;intro v' hv')|(refine aac ?_;intro ac cc)|refine aw2 ?_|(refine ap4 ?_ ?_<;>try intro h)|apply True.intro)
   ((with_reducible apply fp_ret);exact res_W rfl rfl atk ty_agg ty_size rfl)
   exact HR.out _ _ _ [OwnI u] atks ⟨u,hu1,hu2,rfl,rfl⟩
 · rw [if_neg (by simp)] at hbt
   subst hbt
   have hst:=hsK ⟨rfl,rfl⟩
   clear hsK hsU hba
   repeat' (first|((with_reducible apply kx_box (v:= .agg [.bool true,.slice ea ex.length ec,.slice pa pre.length pc,.slice sa suf.length sc,.int .i64 q.kind,q.gv,q.sv].toArray));rfl;(exact qcl);intro b2;(refine apk ?_))|((with_reducible apply kx_box (v:= .agg [.bool true,.slice ea2 ex2.length ec2,.slice pa2 pre2.length pc2,.slice sa2 suf2.length sc2,.int .i64 q2.kind,q2.gv,q2.sv].toArray));rfl;(exact qcl);intro b3;(refine apk ?_))|((with_reducible apply kx_alloc (E:=40));exact ty_zero;(exact qcl);intro b4;(refine apk ?_))|exact xf|refine aw0 ?_|(refine ap2 ?_ ?_<;>try intro h)|refine aw1 ?_|(refine abx ?_;intro bb)|(refine abz ?_;intro bz)|(refine ahv ?_;intro v' hv')|(refine aac ?_;intro ac cc)|refine aw2 ?_|(refine ap4 ?_ ?_<;>try intro h)|apply True.intro)
   repeat' (first|(refine acl Tryz.func49 ?_;refine acr (hall) ?_;rintro v' H' ⟨q0,hq1,hq2,rfl,rfl⟩;refine apl ?_)|((with_reducible apply kx_alloc (E:=38));exact ty_zero;(exact qcl);intro b5;(refine apk ?_))|((with_reducible apply kx_alloc (E:=40));exact ty_zero;(exact qcl);intro b6;(refine apk ?_))|((with_reducible apply kx_storeN);exact ty_size;rfl;rfl;rfl;(exact qsw);exact one3 hq2;(exact qst);(refine apk ?_))|((with_reducible apply kx_ldP);rfl;(exact atk);(simp only [cut,List.drop_succ_cons,List.drop_zero,List.take_succ_cons,List.take_zero];rfl);rfl;(refine apk ?_))|(first|((with_reducible apply kx_bs1);exact ty_el;exact ty_inf;rfl;rfl;rfl;intro bz;(refine apk ?_))|((with_reducible apply kx_bsN);exact ty_el;exact ty_inf;rfl;rfl;rfl;intro bz;(refine apk ?_)))|(refine acl Tryz.func37 ?_;refine acr (hanF bz q0 hq1) ?_;rintro v' H' ⟨qm,hqm1,hqm2,rfl,rfl⟩;refine apl ?_)|((with_reducible apply kx_storeN);exact ty_size;rfl;rfl;rfl;(exact qsw);exact h7 _ _ _ _ _ _ _ _ _ _ _ hqm2;(exact qst);(refine apk ?_))|(refine acl Tryz.func76 ?_;refine acr (hfr) ?_;rintro v' H' ⟨a7,c7,rfl,rfl⟩;refine apl ?_)|((with_reducible refine swo_isCall 46 ?_);(refine swo_joinA (As:=[TxC a7 c7 F,OwnQ qm]) (D:=OwnI ⟨true,a7,c7,F,none,0,[],none,0,[],qm⟩) atks (fun h e=>own_two h e) ?_);(refine acl Tryz.func46 ?_;refine acr (hst a7 c7 qm hqm1 hqm2) ?_;rintro v' H' ⟨u,hu1,hu2,rfl,rfl⟩;refine apl ?_))|((with_reducible apply kx_storeN);exact ty_size;rfl;rfl;rfl;(exact qsw);exact encI_one hu2;(exact qst);(refine apk ?_))|exact xf|refine aw0 ?_|(refine ap2 ?_ ?_<;>try intro h)|refine aw1 ?_|(refine abx ?_;intro bb)|(refine abz ?_;intro bz)|(refine ahv ?_;intro v' hv')|(refine aac ?_;intro ac cc)|refine aw2 ?_|(refine ap4 ?_ ?_<;>try intro h)|apply True.intro)
   ((with_reducible apply fp_ret);exact res_W rfl rfl atk ty_agg ty_size rfl)
   exact HR.out _ _ _ [OwnI u] atks ⟨u,hu1,hu2,rfl,rfl⟩
end Go.Proofs.YteknekiclhnkiaaGreatDoor
