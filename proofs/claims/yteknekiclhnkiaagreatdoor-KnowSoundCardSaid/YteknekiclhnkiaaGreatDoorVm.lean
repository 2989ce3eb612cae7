/- query.And, query.Or, query.Grams: their contracts. -/
import Derived.Test.YteknekiclhnkiaaGreatDoorVl
set_option maxHeartbeats 8000000
set_option maxRecDepth 10000
namespace Go.Proofs.YteknekiclhnkiaaGreatDoor
open Go.RowKit Sx
theorem size_gA (q:Qu):sizeT (gA q)+sizeQs (sA q)<=sizeQ q:=by
 have:=size_parts q
 unfold gA sA
 split
 · omega
 · split
   · simp only [sizeT,sizeQs];omega
   · simp only [sizeT,sizeQs];omega
theorem size_gO (q:Qu):sizeT (gO q)+sizeQs (sO q)<=sizeQ q:=by
 have:=size_parts q
 unfold gO sO
 split
 · omega
 · split
   · simp only [sizeT,sizeQs];omega
   · simp only [sizeT,sizeQs];omega
theorem size_flat {g:Qu->List Tx} {s:Qu->List Qu} (h : ∀ q,sizeT (g q)+sizeQs (s q)<=sizeQ q) : ∀ l:List Qu,sizeT (l.flatMap g)+sizeQs (l.flatMap s)<=sizeQs l
 | []=>by simp [sizeT,sizeQs]
 | q::l=>by
  have h1:=h q
  have h2:=size_flat h l
  rw [List.flatMap_cons,List.flatMap_cons,sizeT_app,sizeQs_app]
  simp only [sizeQs];omega
theorem flat_end (S:List QuV) (q:QuV) (n:Nat) (hn:S.length=n):List.take (n*3) (S.flatMap encQ++[.int .i64 0,.slice none 0 0,.slice none 0 0])++([.int .i64 q.kind,q.gv,q.sv]++List.drop (n*3+3) (S.flatMap encQ++[.int .i64 0,.slice none 0 0,.slice none 0 0]))=(S++[q]).flatMap encQ:=by
 have hl:(S.flatMap encQ).length=n*3:=by rw [flat_len (sz:=3) (fun _=>rfl),hn]
 rw [List.take_left' hl,← hl,List.drop_length_add_append,List.flatMap_append]
 simp [encQ]
theorem and_any (r:Hp) (hT:TabR r) (v:Value) (l:List QuV) (hv:Els r 3 encQ v l) (hl : ∀ q∈l,QuR r q) (hTo:Told textQ ((l.map QuV.key).flatMap sA)) (hs:sizeQs (l.map QuV.key)<=8000000):Tri Tryz.prog r 37 [v] [] fun w H => ∃ q:QuV,q.key=andQ (l.map QuV.key)/\(encQ q).all one?=true/\w = .agg (encQ q).toArray/\H=[OwnQ q]:=by
 have hlm:=maxI hv.2.2.1
 have hln:=sizeQs_len (l.map QuV.key)
 rw [List.length_map] at hln
 refine Tri.free2 fun R HR=>?_
 refine ae Tryz.func37 Tryz.ntmps37 ?_
 refine sw_put (A:=RowC 9 1 (.slice none 0 0) 0 []) (RowC.nil _ _) ?_
 refine sw_put (A:=RowC 38 3 (.slice none 0 0) 0 []) (RowC.nil _ _) ?_
 repeat' (first|((with_reducible apply kx_alloc (E:=38));exact ty_zero;(exact qcl);intro b2;(refine apk ?_))|((with_reducible apply kx_alloc (E:=106));exact ty_zero;(exact qcl);intro b3;(refine apk ?_))|exact xf|refine aw0 ?_|(refine ap2 ?_ ?_<;>try intro h)|refine aw1 ?_|(refine abx ?_;intro bb)|(refine abz ?_;intro bz)|(refine ahv ?_;intro v' hv')|(refine aac ?_;intro ac cc)|refine aw2 ?_|(refine ap4 ?_ ?_<;>try intro h)|apply True.intro)
 refine sw_loop (fun gm t H' => ∃ (i:Nat) (a1:Option Addr) (c1:Nat) (a2:Option Addr) (c2:Nat) (Gs:List Tx) (S:List QuV),gm=l.length+1 - i/\(i<=l.length)/\(Gs=((l.take i).map QuV.key).flatMap gA)/\(S.map QuV.key=((l.take i).map QuV.key).flatMap sA)/\(∀ s∈S,QuR r s)/\(((l.take i).map QuV.key).any badA=false)/\(∃ G,Takes [pt b2 (.cells [.int .i64 0,.slice none 0 0,.slice none 0 0].toArray 38 (0,0)),wbox b3 (.slice a1 Gs.length c1) (.slice a2 S.length c2),RowC 9 1 (.slice a1 Gs.length c1) Gs.length (Gs.flatMap encTx),RowC 38 3 (.slice a2 S.length c2) S.length (S.flatMap encQ)] H' G)/\Sls t 37 [(2,.pointer (some ⟨b2,0,none⟩)),(3,.pointer (some ⟨b3,0,none⟩)),(6,v),(7,.int .i64 l.length),(8,.int .i64 i)]) _ ⟨0,none,0,none,0,[],[],rfl,Nat.zero_le _,rfl,rfl,(fun s h=>absurd h (by simp)),rfl,⟨_,atks⟩,asls⟩ ?_
 rintro gm t H' ⟨i,a1,c1,a2,c2,Gs,S,rfl,hi,hG,hS,hSr,hb,⟨G,hp⟩,hs'⟩
 revert t;refine sls_all ?_;iterate 32 intro uu'
 refine sw_takeG hp ?_;clear hp
 have hgs:=size_flat size_gA ((l.take i).map QuV.key)
 rw [← hG,← hS] at hgs
 have hgl:=sizeT_len Gs
 have hsl:=sizeQs_len (S.map QuV.key)
 rw [List.length_map] at hsl
 have hsa:=sizeQs_app ((l.take i).map QuV.key) ((l.drop i).map QuV.key)
 rw [← List.map_append,List.take_append_drop] at hsa
 by_cases hlt:i<l.length
 · obtain ⟨q,hx⟩ : ∃ q,l.getD i default=q:=⟨_,rfl⟩
   have hqm:q∈l:=hx ▸ getD_memU hlt
   have hqr:=hl q hqm
   have hse:encQ q=[.int .i64 q.kind,q.gv,q.sv]:=rfl
   obtain ⟨h1,h2,h3⟩:=quR_iff.1 hqr
   have htk:(l.take (i+1)).map QuV.key=(l.take i).map QuV.key++[q.key]:=by rw [take_getD (d:=default) hlt,hx,List.map_append];rfl
   have hszq:=size_parts q.key
   rw [key_grams,key_subs] at hszq
   have hgq:=sizeT_len q.grams
   have hsq:=sizeQs_len (q.subs.map QuV.key)
   rw [List.length_map] at hsq
   have hst:sizeQs ((l.take (i+1)).map QuV.key)=sizeQs ((l.take i).map QuV.key)+sizeQ q.key:=by rw [htk,sizeQs_app];simp [sizeQs]
   have hst2:=sizeQs_app ((l.take (i+1)).map QuV.key) ((l.drop (i+1)).map QuV.key)
   rw [← List.map_append,List.take_append_drop] at hst2
   by_cases hk3:q.kind=3
   · have hgA:gA q.key=q.grams:=by unfold gA;rw [key_kind,if_pos hk3,key_grams]
     have hsA:sA q.key=q.subs.map QuV.key:=by unfold sA;rw [key_kind,if_pos hk3,key_subs]
     have hta:=take_any r b3 a1 c1 a2 c2 Gs S q hqr (by omega) (by omega)
     rw [hse] at hta
     repeat' (first|(rw [hx])|(rw [hse])|((with_reducible apply kx_alloc (E:=38));exact ty_zero;(exact qcl);intro b5;(refine apk ?_))|(refine acl Tryz.func64 ?_;refine acr (hta) ?_;rintro v' H' ⟨a1',c1',a2',c2',rfl⟩;refine apl ?_)|exact xf|refine aw0 ?_|(refine ap2 ?_ ?_<;>try intro h)|refine aw1 ?_|(refine abx ?_;intro bb)|(refine abz ?_;intro bz)|(refine ahv ?_;intro v' hv')|(refine aac ?_;intro ac cc)|refine aw2 ?_|(refine ap4 ?_ ?_<;>try intro h)|apply True.intro)
     exact ⟨_,by omega,i+1,a1',c1',a2',c2',Gs++q.grams,S++q.subs,rfl,by omega,by rw [htk,List.flatMap_append,← hG,List.flatMap_singleton,hgA],by rw [htk,List.flatMap_append,← hS,List.flatMap_singleton,hsA,List.map_append],(fun s hs=>(List.mem_append.1 hs).elim (hSr s) (h3 s)),by rw [htk,List.any_append,hb];simp [badA,key_kind,hk3],⟨_,atks⟩,asls⟩
   · by_cases hk4:q.kind=4
     · have hgA:gA q.key=[]:=by unfold gA;rw [key_kind,if_neg hk3]
       have hsA:sA q.key=[q.key]:=by unfold sA;rw [key_kind,if_neg hk3,if_pos hk4]
       have hfe:=flat_end S q S.length rfl
       simp only [List.cons_append,List.nil_append] at hfe
       have hfl:(S.flatMap encQ++([.int .i64 0,.slice none 0 0,.slice none 0 0]:List Value)).length=S.length*3+3:=by rw [List.length_append,flat_len (sz:=3) (fun _=>rfl)];rfl
       have e1:((S.length:Nat):Int).toNat=S.length:=by omega
       have h6:([.int .i64 q.kind,q.gv,q.sv]:List Value).all one?=true:=encQ_one hqr
       repeat' (first|(rw [hx])|(rw [hse])|((with_reducible apply kx_alloc (E:=38));exact ty_zero;(exact qcl);intro b5;(refine apk ?_))|((with_reducible apply sw_drawT (id:=11) 12 (Pl.seg [(0,true),(1,true),(3,true)] (Pl.two 2 5 (Pl.seg [(4,true),(5,false),(6,false),(9,true),(10,true)] (Pl.two 7 11 (Pl.seg [] (Pl.two 8 11 (Pl.seg [(11,false)] Pl.leaf) (Pl.seg [(8,false)] Pl.leaf))) (Pl.seg [(7,false),(8,false)] Pl.leaf))) (Pl.seg [(2,false),(4,true),(6,false),(9,true),(10,true)] (Pl.two 7 11 (Pl.seg [] (Pl.two 8 11 (Pl.seg [(11,false)] Pl.leaf) (Pl.seg [(8,false)] Pl.leaf))) (Pl.seg [(7,false),(8,false)] Pl.leaf))))) (List.replicate 12 true++List.replicate 0 false).toArray [] [(b5,.cells [.int .i64 q.kind,q.gv,q.sv].toArray 38 (0,0))]);kernel_rfl;(exact atks);kernel_rfl;intro r' hl')|((with_reducible apply pi_pur);rfl;(exact qwt);(with_reducible apply pu_ldW);rfl;(first|assumption|exact Lent.h1 hl'|exact Lent.h2 hl'|exact Lent.h3 hl');rfl;(refine apk ?_))|(first|((with_reducible apply kx_bs1);exact ty_el;exact ty_inf;rfl;rfl;rfl;intro bz;(refine apk ?_))|((with_reducible apply kx_bsN);exact ty_el;exact ty_inf;rfl;rfl;rfl;intro bz;(refine apk ?_)))|(first|((with_reducible apply kx_append1);exact ty_el;exact ty_inf;rfl;rfl;rfl;(exact atk);(exact atk);rfl;omega;intro a' c';(refine apk ?_))|((with_reducible apply kx_appendN);exact ty_el;exact ty_inf;rfl;rfl;rfl;rfl;(exact atk);(exact atk);rfl;rfl;omega;intro a' c';(refine apk ?_)))|((with_reducible apply kx_ixC);rfl;(exact atk);rfl;(omega);(refine apk ?_))|((with_reducible apply kx_stCN (vs:=[.int .i64 q.kind,q.gv,q.sv]));exact ty_size;rfl;rfl;rfl;(exact atk);exact h6;rfl;(omega);(refine apk ?_))|exact xf|refine aw0 ?_|(refine ap2 ?_ ?_<;>try intro h)|refine aw1 ?_|(refine abx ?_;intro bb)|(refine abz ?_;intro bz)|(refine ahv ?_;intro v' hv')|(refine aac ?_;intro ac cc)|refine aw2 ?_|(refine ap4 ?_ ?_<;>try intro h)|apply True.intro)
       all_goals simp only [Int.toNat_natCast]
       all_goals rw [hfe]
       all_goals exact ⟨_,by omega,i+1,a1,c1,a',c',Gs,S++[q],rfl,by omega,by rw [htk,List.flatMap_append,← hG,List.flatMap_singleton,hgA,List.append_nil],by rw [htk,List.flatMap_append,← hS,List.flatMap_singleton,hsA,List.map_append];rfl,(fun s hs=>(List.mem_append.1 hs).elim (hSr s) (fun h=>by rw [List.mem_singleton.1 h];exact hqr)),by rw [htk,List.any_append,hb];simp [badA,key_kind,hk4],⟨_,by rw [List.length_append,List.length_singleton];exact atks⟩,asls⟩
     · by_cases hk1:q.kind=1
       · have hgA:gA q.key=[]:=by unfold gA;rw [key_kind,if_neg hk3]
         have hsA:sA q.key=[]:=by unfold sA;rw [key_kind,if_neg hk3,if_neg hk4]
         repeat' (first|(rw [hx])|(rw [hse])|((with_reducible apply kx_alloc (E:=38));exact ty_zero;(exact qcl);intro b5;(refine apk ?_))|exact xf|refine aw0 ?_|(refine ap2 ?_ ?_<;>try intro h)|refine aw1 ?_|(refine abx ?_;intro bb)|(refine abz ?_;intro bz)|(refine ahv ?_;intro v' hv')|(refine aac ?_;intro ac cc)|refine aw2 ?_|(refine ap4 ?_ ?_<;>try intro h)|apply True.intro)
         exact ⟨_,by omega,i+1,a1,c1,a2,c2,Gs,S,rfl,by omega,by rw [htk,List.flatMap_append,← hG,List.flatMap_singleton,hgA,List.append_nil],by rw [htk,List.flatMap_append,← hS,List.flatMap_singleton,hsA,List.append_nil],hSr,by rw [htk,List.any_append,hb];simp [badA,key_kind,hk1],⟨_,atks⟩,asls⟩
       · have hbad:andQ (l.map QuV.key) = .mk 2 [] []:=by
          unfold andQ
          rw [if_pos]
          exact List.any_eq_true.2 ⟨q.key,List.mem_map_of_mem hqm,by simp [badA,key_kind,hk1,hk3,hk4]⟩
         refine sw_put (A:=OwnQ (.mk 2 (.slice none 0 0) [] (.slice none 0 0) [])) (own_nil (by unfold KindR;omega)) ?_
         repeat' (first|(rw [hx])|(rw [hse])|((with_reducible apply kx_alloc (E:=38));exact ty_zero;(exact qcl);intro b5;(refine apk ?_))|exact xf|refine aw0 ?_|(refine ap2 ?_ ?_<;>try intro h)|refine aw1 ?_|(refine abx ?_;intro bb)|(refine abz ?_;intro bz)|(refine ahv ?_;intro v' hv')|(refine aac ?_;intro ac cc)|refine aw2 ?_|(refine ap4 ?_ ?_<;>try intro h)|apply True.intro)
         ((with_reducible apply fp_ret);exact res_W rfl rfl atk ty_agg ty_size rfl)
         exact HR.out _ _ _ [OwnQ (.mk 2 (.slice none 0 0) [] (.slice none 0 0) [])] atks ⟨.mk 2 (.slice none 0 0) [] (.slice none 0 0) [],by rw [hbad,key_mk];rfl,rfl,rfl,rfl⟩
 · obtain rfl:i=l.length:=by omega
   rw [List.take_length] at hG hS hb
   have hq:=gquery_any r hT b3 a1 c1 a2 c2 Gs S 3 1 (by unfold KindR;omega) (by unfold KindR;omega) hSr (by rw [hS];exact hTo) (by omega)
   have hand:andQ (l.map QuV.key)=mkQ 3 1 Gs (S.map QuV.key):=by unfold andQ;rw [hb,hG,hS];rfl
   rw [← hand] at hq
   repeat' (first|(refine acl Tryz.func65 ?_;refine acr (hq) ?_;rintro v' H' ⟨q',hq1,hq2,rfl,rfl⟩;refine apl ?_)|((with_reducible apply kx_storeN);exact ty_size;rfl;rfl;rfl;(exact qsw);exact hq2;(exact qst);(refine apk ?_))|exact xf|refine aw0 ?_|(refine ap2 ?_ ?_<;>try intro h)|refine aw1 ?_|(refine abx ?_;intro bb)|(refine abz ?_;intro bz)|(refine ahv ?_;intro v' hv')|(refine aac ?_;intro ac cc)|refine aw2 ?_|(refine ap4 ?_ ?_<;>try intro h)|apply True.intro)
   ((with_reducible apply fp_ret);exact res_W rfl rfl atk ty_agg ty_size rfl)
   exact HR.out _ _ _ [OwnQ q'] atks ⟨q',hq1,hq2,rfl,rfl⟩
theorem or_any (r:Hp) (hT:TabR r) (v:Value) (l:List QuV) (hv:Els r 3 encQ v l) (hl : ∀ q∈l,QuR r q) (hTo:Told textQ ((l.map QuV.key).flatMap sO)) (hs:sizeQs (l.map QuV.key)<=8000000):Tri Tryz.prog r 66 [v] [] fun w H => ∃ q:QuV,q.key=orQ (l.map QuV.key)/\(encQ q).all one?=true/\w = .agg (encQ q).toArray/\H=[OwnQ q]:=by
 have hlm:=maxI hv.2.2.1
 have hln:=sizeQs_len (l.map QuV.key)
 rw [List.length_map] at hln
 refine Tri.free2 fun R HR=>?_
 refine ae Tryz.func66 Tryz.ntmps66 ?_
 refine sw_put (A:=RowC 9 1 (.slice none 0 0) 0 []) (RowC.nil _ _) ?_
 refine sw_put (A:=RowC 38 3 (.slice none 0 0) 0 []) (RowC.nil _ _) ?_
 repeat' (first|((with_reducible apply kx_alloc (E:=38));exact ty_zero;(exact qcl);intro b2;(refine apk ?_))|((with_reducible apply kx_alloc (E:=106));exact ty_zero;(exact qcl);intro b3;(refine apk ?_))|exact xf|refine aw0 ?_|(refine ap2 ?_ ?_<;>try intro h)|refine aw1 ?_|(refine abx ?_;intro bb)|(refine abz ?_;intro bz)|(refine ahv ?_;intro v' hv')|(refine aac ?_;intro ac cc)|refine aw2 ?_|(refine ap4 ?_ ?_<;>try intro h)|apply True.intro)
 refine sw_loop (fun gm t H' => ∃ (i:Nat) (a1:Option Addr) (c1:Nat) (a2:Option Addr) (c2:Nat) (Gs:List Tx) (S:List QuV),gm=l.length+1 - i/\(i<=l.length)/\(Gs=((l.take i).map QuV.key).flatMap gO)/\(S.map QuV.key=((l.take i).map QuV.key).flatMap sO)/\(∀ s∈S,QuR r s)/\(((l.take i).map QuV.key).any (fun q=>decide (q.kind=1))=false)/\(∃ G,Takes [pt b2 (.cells [.int .i64 0,.slice none 0 0,.slice none 0 0].toArray 38 (0,0)),wbox b3 (.slice a1 Gs.length c1) (.slice a2 S.length c2),RowC 9 1 (.slice a1 Gs.length c1) Gs.length (Gs.flatMap encTx),RowC 38 3 (.slice a2 S.length c2) S.length (S.flatMap encQ)] H' G)/\Sls t 45 [(2,.pointer (some ⟨b2,0,none⟩)),(3,.pointer (some ⟨b3,0,none⟩)),(6,v),(7,.int .i64 l.length),(8,.int .i64 i)]) _ ⟨0,none,0,none,0,[],[],rfl,Nat.zero_le _,rfl,rfl,(fun s h=>absurd h (by simp)),rfl,⟨_,atks⟩,asls⟩ ?_
 rintro gm t H' ⟨i,a1,c1,a2,c2,Gs,S,rfl,hi,hG,hS,hSr,hb,⟨G,hp⟩,hs'⟩
 revert t;refine sls_all ?_;iterate 40 intro uu'
 refine sw_takeG hp ?_;clear hp
 have hgs:=size_flat size_gO ((l.take i).map QuV.key)
 rw [← hG,← hS] at hgs
 have hgl:=sizeT_len Gs
 have hsl:=sizeQs_len (S.map QuV.key)
 rw [List.length_map] at hsl
 have hsa:=sizeQs_app ((l.take i).map QuV.key) ((l.drop i).map QuV.key)
 rw [← List.map_append,List.take_append_drop] at hsa
 by_cases hlt:i<l.length
 · obtain ⟨q,hx⟩ : ∃ q,l.getD i default=q:=⟨_,rfl⟩
   have hqm:q∈l:=hx ▸ getD_memU hlt
   have hqr:=hl q hqm
   have hse:encQ q=[.int .i64 q.kind,q.gv,q.sv]:=rfl
   obtain ⟨h1,h2,h3⟩:=quR_iff.1 hqr
   have htk:(l.take (i+1)).map QuV.key=(l.take i).map QuV.key++[q.key]:=by rw [take_getD (d:=default) hlt,hx,List.map_append];rfl
   have hszq:=size_parts q.key
   rw [key_grams,key_subs] at hszq
   have hgq:=sizeT_len q.grams
   have hsq:=sizeQs_len (q.subs.map QuV.key)
   rw [List.length_map] at hsq
   have hst:sizeQs ((l.take (i+1)).map QuV.key)=sizeQs ((l.take i).map QuV.key)+sizeQ q.key:=by rw [htk,sizeQs_app];simp [sizeQs]
   have hst2:=sizeQs_app ((l.take (i+1)).map QuV.key) ((l.drop (i+1)).map QuV.key)
   rw [← List.map_append,List.take_append_drop] at hst2
   have hlo:=fun r' (h:sub r r')=>lone_any r' q (hqr.mono h)
   rw [hse] at hlo
   have hb':¬ q.kind=1->((l.take (i+1)).map QuV.key).any (fun q=>decide (q.kind=1))=false:=fun h=>by rw [htk,List.any_append,hb];simp [key_kind,h]
   by_cases hk1:q.kind=1
   · have hbad:orQ (l.map QuV.key) = .mk 1 [] []:=by
      unfold orQ
      rw [if_pos]
      exact List.any_eq_true.2 ⟨q.key,List.mem_map_of_mem hqm,by simp [key_kind,hk1]⟩
     refine sw_put (A:=OwnQ (.mk 1 (.slice none 0 0) [] (.slice none 0 0) [])) (own_nil (by unfold KindR;omega)) ?_
     repeat' (first|(rw [hx])|(rw [hse])|((with_reducible apply kx_alloc (E:=38));exact ty_zero;(exact qcl);intro b5;(refine apk ?_))|exact xf|refine aw0 ?_|(refine ap2 ?_ ?_<;>try intro h)|refine aw1 ?_|(refine abx ?_;intro bb)|(refine abz ?_;intro bz)|(refine ahv ?_;intro v' hv')|(refine aac ?_;intro ac cc)|refine aw2 ?_|(refine ap4 ?_ ?_<;>try intro h)|apply True.intro)
     ((with_reducible apply fp_ret);exact res_W rfl rfl atk ty_agg ty_size rfl)
     exact HR.out _ _ _ [OwnQ (.mk 1 (.slice none 0 0) [] (.slice none 0 0) [])] atks ⟨.mk 1 (.slice none 0 0) [] (.slice none 0 0) [],by rw [hbad,key_mk];rfl,rfl,rfl,rfl⟩
   by_cases hc:(decide (q.key.kind=4) || loneQ q.key)=true
   · have hgO:gO q.key=q.grams:=by unfold gO;rw [if_pos hc,key_grams]
     have hsO:sO q.key=q.subs.map QuV.key:=by unfold sO;rw [if_pos hc,key_subs]
     have hta:=take_any r b3 a1 c1 a2 c2 Gs S q hqr (by omega) (by omega)
     rw [hse] at hta
     have hlo2:¬ q.kind=4->loneQ q.key=true:=fun h=>by rw [key_kind,decide_eq_false h,Bool.false_or] at hc;exact hc
     by_cases hk4:q.kind=4
     · repeat' (first|(rw [hx])|(rw [hse])|((with_reducible apply kx_alloc (E:=38));exact ty_zero;(exact qcl);intro b5;(refine apk ?_))|(refine acl Tryz.func64 ?_;refine acr (hta) ?_;rintro v' H' ⟨a1',c1',a2',c2',rfl⟩;refine apl ?_)|exact xf|refine aw0 ?_|(refine ap2 ?_ ?_<;>try intro h)|refine aw1 ?_|(refine abx ?_;intro bb)|(refine abz ?_;intro bz)|(refine ahv ?_;intro v' hv')|(refine aac ?_;intro ac cc)|refine aw2 ?_|(refine ap4 ?_ ?_<;>try intro h)|apply True.intro)
       exact ⟨_,by omega,i+1,a1',c1',a2',c2',Gs++q.grams,S++q.subs,rfl,by omega,by rw [htk,List.flatMap_append,← hG,List.flatMap_singleton,hgO],by rw [htk,List.flatMap_append,← hS,List.flatMap_singleton,hsO,List.map_append],(fun s hs=>(List.mem_append.1 hs).elim (hSr s) (h3 s)),hb' hk1,⟨_,atks⟩,asls⟩
     · rw [hlo2 hk4] at hlo
       have hlo3:=hlo r (fun _ _ h=>h)
       repeat' (first|(rw [hx])|(rw [hse])|((with_reducible apply kx_alloc (E:=38));exact ty_zero;(exact qcl);intro b5;(refine apk ?_))|(refine acl Tryz.func108 ?_;refine acr (hlo3) ?_;rintro v' H' ⟨rfl,rfl⟩;refine apl ?_)|(refine acl Tryz.func64 ?_;refine acr (hta) ?_;rintro v' H' ⟨a1',c1',a2',c2',rfl⟩;refine apl ?_)|exact xf|refine aw0 ?_|(refine ap2 ?_ ?_<;>try intro h)|refine aw1 ?_|(refine abx ?_;intro bb)|(refine abz ?_;intro bz)|(refine ahv ?_;intro v' hv')|(refine aac ?_;intro ac cc)|refine aw2 ?_|(refine ap4 ?_ ?_<;>try intro h)|apply True.intro)
       exact ⟨_,by omega,i+1,a1',c1',a2',c2',Gs++q.grams,S++q.subs,rfl,by omega,by rw [htk,List.flatMap_append,← hG,List.flatMap_singleton,hgO],by rw [htk,List.flatMap_append,← hS,List.flatMap_singleton,hsO,List.map_append],(fun s hs=>(List.mem_append.1 hs).elim (hSr s) (h3 s)),hb' hk1,⟨_,atks⟩,asls⟩
   · have hc2:¬ q.kind=4/\loneQ q.key=false:=by
      rw [Bool.not_eq_true,Bool.or_eq_false_iff,decide_eq_false_iff_not,key_kind] at hc
      exact hc
     have hk4:=hc2.1
     have hgO:gO q.key=[]:=by unfold gO;rw [if_neg hc]
     have hlo3:=hlo r (fun _ _ h=>h)
     rw [hc2.2] at hlo3
     by_cases hk3:q.kind=3
     · have hsO:sO q.key=[q.key]:=by unfold sO;rw [if_neg hc,key_kind,if_pos hk3]
       have hfe:=flat_end S q S.length rfl
       simp only [List.cons_append,List.nil_append] at hfe
       have hfl:(S.flatMap encQ++([.int .i64 0,.slice none 0 0,.slice none 0 0]:List Value)).length=S.length*3+3:=by rw [List.length_append,flat_len (sz:=3) (fun _=>rfl)];rfl
       have e1:((S.length:Nat):Int).toNat=S.length:=by omega
       have h6:([.int .i64 q.kind,q.gv,q.sv]:List Value).all one?=true:=encQ_one hqr
       repeat' (first|(rw [hx])|(rw [hse])|((with_reducible apply kx_alloc (E:=38));exact ty_zero;(exact qcl);intro b5;(refine apk ?_))|(refine acl Tryz.func108 ?_;refine acr (hlo3) ?_;rintro v' H' ⟨rfl,rfl⟩;refine apl ?_)|((with_reducible apply sw_drawT (id:=10) 12 (Pl.seg [(0,true),(1,true),(3,true)] (Pl.two 2 5 (Pl.seg [(4,true),(5,false),(6,false),(9,true),(10,true)] (Pl.two 7 11 (Pl.seg [] (Pl.two 8 11 (Pl.seg [(11,false)] Pl.leaf) (Pl.seg [(8,false)] Pl.leaf))) (Pl.seg [(7,false),(8,false)] Pl.leaf))) (Pl.seg [(2,false),(4,true),(6,false),(9,true),(10,true)] (Pl.two 7 11 (Pl.seg [] (Pl.two 8 11 (Pl.seg [(11,false)] Pl.leaf) (Pl.seg [(8,false)] Pl.leaf))) (Pl.seg [(7,false),(8,false)] Pl.leaf))))) (List.replicate 12 true++List.replicate 0 false).toArray [] [(b5,.cells [.int .i64 q.kind,q.gv,q.sv].toArray 38 (0,0))]);kernel_rfl;(exact atks);kernel_rfl;intro r' hl')|((with_reducible apply pi_pur);rfl;(exact qwt);(with_reducible apply pu_ldW);rfl;(first|assumption|exact Lent.h1 hl'|exact Lent.h2 hl'|exact Lent.h3 hl');rfl;(refine apk ?_))|(first|((with_reducible apply kx_bs1);exact ty_el;exact ty_inf;rfl;rfl;rfl;intro bz;(refine apk ?_))|((with_reducible apply kx_bsN);exact ty_el;exact ty_inf;rfl;rfl;rfl;intro bz;(refine apk ?_)))|(first|((with_reducible apply kx_append1);exact ty_el;exact ty_inf;rfl;rfl;rfl;(exact atk);(exact atk);rfl;omega;intro a' c';(refine apk ?_))|((with_reducible apply kx_appendN);exact ty_el;exact ty_inf;rfl;rfl;rfl;rfl;(exact atk);(exact atk);rfl;rfl;omega;intro a' c';(refine apk ?_)))|((with_reducible apply kx_ixC);rfl;(exact atk);rfl;(omega);(refine apk ?_))|((with_reducible apply kx_stCN (vs:=[.int .i64 q.kind,q.gv,q.sv]));exact ty_size;rfl;rfl;rfl;(exact atk);exact h6;rfl;(omega);(refine apk ?_))|exact xf|refine aw0 ?_|(refine ap2 ?_ ?_<;>try intro h)|refine aw1 ?_|(refine abx ?_;intro bb)|(refine abz ?_;intro bz)|(refine ahv ?_;intro v' hv')|(refine aac ?_;intro ac cc)|refine aw2 ?_|(refine ap4 ?_ ?_<;>try intro h)|apply True.intro)
       all_goals simp only [Int.toNat_natCast]
       all_goals rw [hfe]
       all_goals exact ⟨_,by omega,i+1,a1,c1,a',c',Gs,S++[q],rfl,by omega,by rw [htk,List.flatMap_append,← hG,List.flatMap_singleton,hgO,List.append_nil],by rw [htk,List.flatMap_append,← hS,List.flatMap_singleton,hsO,List.map_append];rfl,(fun s hs=>(List.mem_append.1 hs).elim (hSr s) (fun h=>by rw [List.mem_singleton.1 h];exact hqr)),hb' hk1,⟨_,by rw [List.length_append,List.length_singleton];exact atks⟩,asls⟩
     · have hsO:sO q.key=[]:=by unfold sO;rw [if_neg hc,key_kind,if_neg hk3]
       repeat' (first|(rw [hx])|(rw [hse])|((with_reducible apply kx_alloc (E:=38));exact ty_zero;(exact qcl);intro b5;(refine apk ?_))|(refine acl Tryz.func108 ?_;refine acr (hlo3) ?_;rintro v' H' ⟨rfl,rfl⟩;refine apl ?_)|exact xf|refine aw0 ?_|(refine ap2 ?_ ?_<;>try intro h)|refine aw1 ?_|(refine abx ?_;intro bb)|(refine abz ?_;intro bz)|(refine ahv ?_;intro v' hv')|(refine aac ?_;intro ac cc)|refine aw2 ?_|(refine ap4 ?_ ?_<;>try intro h)|apply True.intro)
       exact ⟨_,by omega,i+1,a1,c1,a2,c2,Gs,S,rfl,by omega,by rw [htk,List.flatMap_append,← hG,List.flatMap_singleton,hgO,List.append_nil],by rw [htk,List.flatMap_append,← hS,List.flatMap_singleton,hsO,List.append_nil],hSr,hb' hk1,⟨_,atks⟩,asls⟩
 · obtain rfl:i=l.length:=by omega
   rw [List.take_length] at hG hS hb
   have hq:=gquery_any r hT b3 a1 c1 a2 c2 Gs S 4 2 (by unfold KindR;omega) (by unfold KindR;omega) hSr (by rw [hS];exact hTo) (by omega)
   have hand:orQ (l.map QuV.key)=mkQ 4 2 Gs (S.map QuV.key):=by unfold orQ;rw [hb,hG,hS];rfl
   rw [← hand] at hq
   repeat' (first|(refine acl Tryz.func65 ?_;refine acr (hq) ?_;rintro v' H' ⟨q',hq1,hq2,rfl,rfl⟩;refine apl ?_)|((with_reducible apply kx_storeN);exact ty_size;rfl;rfl;rfl;(exact qsw);exact hq2;(exact qst);(refine apk ?_))|exact xf|refine aw0 ?_|(refine ap2 ?_ ?_<;>try intro h)|refine aw1 ?_|(refine abx ?_;intro bb)|(refine abz ?_;intro bz)|(refine ahv ?_;intro v' hv')|(refine aac ?_;intro ac cc)|refine aw2 ?_|(refine ap4 ?_ ?_<;>try intro h)|apply True.intro)
   ((with_reducible apply fp_ret);exact res_W rfl rfl atk ty_agg ty_size rfl)
   exact HR.out _ _ _ [OwnQ q'] atks ⟨q',hq1,hq2,rfl,rfl⟩
theorem grams_any (r:Hp) (hT:TabR r) (v:Value) (gs:List Tx) (hv:Els r 1 encTx v gs) (hs:sizeT gs<=7000000):Tri Tryz.prog r 68 [v] [] fun w H => ∃ q:QuV,q.key=gramsQ gs/\(encQ q).all one?=true/\w = .agg (encQ q).toArray/\H=[OwnQ q]:=by
 have hlm:=maxI hv.2.2.1
 have hc:=contStr_any r v gs 110 [] [] (fun g => !decide (g.length=3)) hv (goesOf Tryz.func110 (by kernel_rfl) rfl) (fun k hk=>ggram_any r _)
 have hg:gramsQ gs=if gs.any (fun g => !decide (g.length=3))=true then .mk 2 [] [] else andQ [.mk 3 gs []]:=rfl
 refine Tri.free2 fun R HR=>?_
 generalize gs.any (fun g => !decide (g.length=3))=bb at hc hg
 cases bb
 · rw [if_neg (by decide)] at hg
   have ha : ∀ r' bz,sub r r'->r' bz=some (.cells [.int .i64 3,v,.slice none 0 0].toArray 38 (0,0))->Tri Tryz.prog r' 37 [.slice (some ⟨bz,0,none⟩) 1 1] [] fun w H => ∃ q:QuV,q.key=gramsQ gs/\(encQ q).all one?=true/\w = .agg (encQ q).toArray/\H=[OwnQ q]:=fun r' bz h hb=>by
    have h2:=and_any r' (hT.mono h) (.slice (some ⟨bz,0,none⟩) 1 1) [.mk 3 v gs (.slice none 0 0) []] ⟨fun _=>rfl,Sl.lit (n:=1) hb rfl (by simp [maxLen])⟩ (fun q hq=>by
     rw [List.mem_singleton.1 hq]
     exact quR_iff.2 (show KindR 3 by unfold KindR;omega) ⟨hv.mono h,⟨fun _=>rfl,rfl,Nat.zero_le _,.inl ⟨⟨none,rfl⟩,rfl⟩⟩,fun s hs=>by cases hs⟩) (by simp [key_mk,sA,Qu.kind,Told,Qu.subs]) (by simp [key_mk,sizeQs,sizeQ];omega)
    rw [hg]
    simpa [key_mk] using h2
   refine ae Tryz.func68 Tryz.ntmps68 ?_
   repeat' (first|((with_reducible apply kx_alloc (E:=38));exact ty_zero;(exact qcl);intro b2;(refine apk ?_))|(refine acl Tryz.func60 ?_;refine acr (hc) ?_;rintro v' H' ⟨rfl,rfl⟩;refine apl ?_)|(first|((with_reducible apply kx_bs1);exact ty_el;exact ty_inf;rfl;rfl;rfl;intro bz;(refine apk ?_))|((with_reducible apply kx_bsN);exact ty_el;exact ty_inf;rfl;rfl;rfl;intro bz;(refine apk ?_)))|((with_reducible apply kx_lend [(bz,.cells [.int .i64 3,v,.slice none 0 0].toArray 38 (0,0))]);(exact atks);intro r' hl';refine acl Tryz.func37 ?_;refine acr (ha _ bz hl'.1 (Lent.h1 hl')) ?_;rintro v' H' ⟨q',hq1,hq2,rfl,rfl⟩;all_goals refine apm ?_)|((with_reducible apply kx_storeN);exact ty_size;rfl;rfl;rfl;(exact qsw);exact hq2;(exact qst);(refine apk ?_))|exact xf|refine aw0 ?_|(refine ap2 ?_ ?_<;>try intro h)|refine aw1 ?_|(refine abx ?_;intro bb)|(refine abz ?_;intro bz)|(refine ahv ?_;intro v' hv')|(refine aac ?_;intro ac cc)|refine aw2 ?_|(refine ap4 ?_ ?_<;>try intro h)|apply True.intro)
   ((with_reducible apply fp_ret);exact res_W rfl rfl atk ty_agg ty_size rfl)
   exact HR.out _ _ _ [OwnQ q'] atks ⟨q',hq1,hq2,rfl,rfl⟩
 · rw [if_pos rfl] at hg
   refine ae Tryz.func68 Tryz.ntmps68 ?_
   refine sw_put (A:=OwnQ (.mk 2 (.slice none 0 0) [] (.slice none 0 0) [])) (own_nil (by unfold KindR;omega)) ?_
   repeat' (first|((with_reducible apply kx_alloc (E:=38));exact ty_zero;(exact qcl);intro b2;(refine apk ?_))|(refine acl Tryz.func60 ?_;refine acr (hc) ?_;rintro v' H' ⟨rfl,rfl⟩;refine apl ?_)|exact xf|refine aw0 ?_|(refine ap2 ?_ ?_<;>try intro h)|refine aw1 ?_|(refine abx ?_;intro bb)|(refine abz ?_;intro bz)|(refine ahv ?_;intro v' hv')|(refine aac ?_;intro ac cc)|refine aw2 ?_|(refine ap4 ?_ ?_<;>try intro h)|apply True.intro)
   ((with_reducible apply fp_ret);exact res_W rfl rfl atk ty_agg ty_size rfl)
   exact HR.out _ _ _ [OwnQ (.mk 2 (.slice none 0 0) [] (.slice none 0 0) [])] atks ⟨.mk 2 (.slice none 0 0) [] (.slice none 0 0) [],by rw [hg,key_mk];rfl,rfl,rfl,rfl⟩
end Go.Proofs.YteknekiclhnkiaaGreatDoor
