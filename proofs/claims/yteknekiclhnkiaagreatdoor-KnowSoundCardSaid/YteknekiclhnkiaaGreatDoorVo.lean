/- query.Sat: its contract; awake. -/
import Derived.Test.YteknekiclhnkiaaGreatDoorVi
set_option maxHeartbeats 4000000
set_option maxRecDepth 10000
namespace Go.Proofs.YteknekiclhnkiaaGreatDoor
open Go.RowKit Go.Maps Sx
def SaysR (P:Program) (kt:TypeId) (r:Hp) (b:Nat) (there:Tx->Bool):Prop := ∃ n M g,MapC P kt b n M g/\sub g r /\ ∀ s:Tx,(M (.string s)).getD (.bool false) = .bool (there s)
theorem SaysR.mono {P:Program} {kt:TypeId} {r r':Hp} {b:Nat} {there:Tx->Bool} (h:SaysR P kt r b there) (hr:sub r r'):SaysR P kt r' b there:=by
 obtain ⟨n,M,g,h1,h2,h3⟩:=h
 exact ⟨n,M,g,h1,Sx.sub.trans h2 hr,h3⟩
def mcell (b:Nat):Obj:= .cells [.map (some b)].toArray 78 (0,0)
def bcell (x:Bool):Obj:= .cells [.bool x].toArray 4 (0,0)
def SatT (there:Tx->Bool) (q:QuV):Prop := ∀ (r:Hp) (b:Nat),SaysR Tryz.prog 9 r b there->QuR r q->Tri Tryz.prog r 35 [.agg (encQ q).toArray,.map (some b)] [] fun w H=>w = .bool (satQ there q.key)/\H=[]
theorem sat1_any (r:Hp) (b b3 b5:Nat) (there:Tx->Bool) (one:Bool) (hM:SaysR Tryz.prog 9 r b there) (h3:r b3=some (mcell b)) (h5:r b5=some (bcell one)) (g:Tx) (hg:g.length<=9000000):Tri Tryz.prog r 61 [.string (bs g),.pointer (some ⟨b3,0,none⟩),.pointer (some ⟨b5,0,none⟩)] [] fun w H=>w = .bool (decide (there g=one))/\H=[]:=by
 refine Tri.free2 fun R HR=>?_
 obtain ⟨n,M,gg,hm1,hm2,hm3⟩:=hM
 have hmg:=hm3 g
 unfold mcell at h3
 unfold bcell at h5
 refine ae Tryz.func61 Tryz.ntmps61 ?_
 repeat' (first|((with_reducible apply kx_mgetR (kt:=9) (et:=4) (g:=g));kernel_rfl;exact Tryz.underlying9;exact ty_zero;rfl;rfl;(unfold maxLen;omega);exact hm1;exact hm2;exact hmg;(refine apk ?_))|exact xf|refine aw0 ?_|(refine ap2 ?_ ?_<;>try intro h)|refine aw1 ?_|(refine abx ?_;intro bb)|(refine abz ?_;intro bz)|(refine ahv ?_;intro v' hv')|(refine aac ?_;intro ac cc)|refine aw2 ?_|(refine ap4 ?_ ?_<;>try intro h)|apply True.intro)
 ((with_reducible apply fp_ret);exact res_1 rfl rfl)
 exact HR.out _ _ _ [] Takes.all ⟨by first|rfl|(congr 1;done)|(cases there g<;>cases one<;>rfl),rfl⟩
theorem sat2_any (r:Hp) (b b3 b5:Nat) (there:Tx->Bool) (one:Bool) (hM:SaysR Tryz.prog 9 r b there) (h3:r b3=some (mcell b)) (h5:r b5=some (bcell one)) (q:QuV) (hq:QuR r q) (ih:SatT there q):Tri Tryz.prog r 63 [vQ q,.pointer (some ⟨b3,0,none⟩),.pointer (some ⟨b5,0,none⟩)] [] fun w H=>w = .bool (decide (satQ there q.key=one))/\H=[]:=by
 refine Tri.free2 fun R HR=>?_
 have hs:=fun r' (h:sub r r')=>ih r' b (hM.mono h) (hq.mono h)
 rw [show encQ q=[.int .i64 q.kind,q.gv,q.sv] from rfl] at hs
 unfold mcell at h3
 unfold bcell at h5
 generalize satQ there q.key=x at *
 show Tri _ _ _ [.agg [.int .i64 q.kind,q.gv,q.sv].toArray,_,_] _ _
 refine ae Tryz.func63 Tryz.ntmps63 ?_
 repeat' (first|((with_reducible apply kx_box);rfl;(exact qcl);intro b7;(refine apk ?_))|((with_reducible apply pi_pur);rfl;(exact qwt);(with_reducible apply pu_ldW);rfl;(first|assumption|exact Lent.h1 hl'|exact Lent.h2 hl'|exact Lent.h3 hl');rfl;(refine apk ?_))|(((with_reducible apply sw_draw (id:=1) 5 [(0,true),(1,true),(3,true),(2,false),(4,true)] [(5,false)] [(b7,.cells [.int .i64 q.kind,q.gv,q.sv].toArray 38 (0,0))]);kernel_rfl;(exact atks);kernel_rfl;intro r' hl');have h3':=hl'.1 _ _ h3;have h5':=hl'.1 _ _ h5)|(refine acl Tryz.func35 ?_;refine acr (hs _ hl'.1) ?_;rintro v' H' ⟨rfl,rfl⟩;refine apl ?_)|exact xf|refine aw0 ?_|(refine ap2 ?_ ?_<;>try intro h)|refine aw1 ?_|(refine abx ?_;intro bb)|(refine abz ?_;intro bz)|(refine ahv ?_;intro v' hv')|(refine aac ?_;intro ac cc)|refine aw2 ?_|(refine ap4 ?_ ?_<;>try intro h)|apply True.intro)
 ((with_reducible apply fp_ret);exact res_1 rfl rfl)
 exact HR.out _ _ _ [] Takes.all ⟨by first|rfl|(congr 1;done)|(cases x<;>cases one<;>rfl),rfl⟩
theorem satQ_v (there:Tx->Bool) (q:QuV):satQ there q.key=if q.kind=1 then true else if q.kind=3\/q.kind=4 then xor (!decide (q.kind=4)) (q.grams.any (fun g=>decide (there g=decide (q.kind=4))) || q.subs.any (fun s=>decide (satQ there s.key=decide (q.kind=4)))) else false:=by
 obtain ⟨k,gv,gs,sv,ss⟩:=q
 have ha : ∀ {α:Type} (l:List α) (f:α->Bool),l.all f = !(l.any fun x=>decide (f x=false)):=fun l f=>by
  rw [List.all_eq_not_any_not]
  congr 2
  funext x
  cases f x<;>rfl
 have hb : ∀ {α:Type} (l:List α) (f:α->Bool),(l.any fun x=>decide (f x=true))=l.any f:=fun l f=>by
  congr 1
  funext x
  cases f x<;>rfl
 have hu:satQ there (.mk k gs (ss.map QuV.key))=if k=1 then true else if k=3 then gs.all there && satAll there (ss.map QuV.key) else if k=4 then gs.any there || satAny there (ss.map QuV.key) else false:=by
  conv=>lhs;unfold satQ
 rw [key_mk,hu,satAll_eq,satAny_eq,List.all_map,List.any_map]
 show _=if k=1 then true else if k=3\/k=4 then xor (!decide (k=4)) (gs.any (fun g=>decide (there g=decide (k=4))) || ss.any (fun s=>decide (satQ there s.key=decide (k=4)))) else false
 by_cases h1:k=1
 · rw [if_pos h1,if_pos h1]
 rw [if_neg h1,if_neg h1]
 by_cases h3:k=3
 · rw [if_pos h3,if_pos (.inl h3),decide_eq_false (show ¬ k=4 by omega),ha,ha]
   simp only [Function.comp_def]
   generalize gs.any _=x
   generalize ss.any _=y
   cases x<;>cases y<;>rfl
 rw [if_neg h3]
 by_cases h4:k=4
 · rw [if_pos h4,if_pos (.inr h4),decide_eq_true h4,hb,hb]
   simp only [Function.comp_def]
   generalize gs.any _=x
   generalize ss.any _=y
   cases x<;>cases y<;>rfl
 · rw [if_neg h4,if_neg (by omega)]
theorem sat_of (r:Hp) (b:Nat) (there:Tx->Bool) (hM:SaysR Tryz.prog 9 r b there) (q:QuV) (hq:QuR r q) (hs:sizeQ q.key<=9000000) (ih : ∀ s∈q.subs,SatT there s):Tri Tryz.prog r 35 [.agg (encQ q).toArray,.map (some b)] [] fun w H=>w = .bool (satQ there q.key)/\H=[]:=by
 obtain ⟨h1,h2,h3⟩:=quR_iff.1 hq
 have hsz:=size_parts q.key
 rw [key_grams,key_subs] at hsz
 rw [satQ_v]
 have hc1:=fun (one:Bool) r' b3 b5 (h:sub r r') (e3:r' b3=some (mcell b)) (e5:r' b5=some (bcell one))=>contStr_any r' q.gv q.grams 61 [.pointer (some ⟨b3,0,none⟩),.pointer (some ⟨b5,0,none⟩)] [] (fun g=>decide (there g=one)) (h1.mono h) (goesOf Tryz.func61 (by kernel_rfl) rfl) (fun k hk=>sat1_any r' b b3 b5 there one (hM.mono h) e3 e5 _ (by have:=sizeT_mem (List.getElem_mem hk);omega))
 have hc2:=fun (one:Bool) r' b3 b5 (h:sub r r') (e3:r' b3=some (mcell b)) (e5:r' b5=some (bcell one))=>contQry_any r' q.sv q.subs 63 [.pointer (some ⟨b3,0,none⟩),.pointer (some ⟨b5,0,none⟩)] [] (fun s=>decide (satQ there s.key=one)) (h2.mono h) (goesOf Tryz.func63 (by kernel_rfl) rfl) (fun k hk=>sat2_any r' b b3 b5 there one (hM.mono h) e3 e5 _ ((h3 _ (List.getElem_mem hk)).mono h) (ih _ (List.getElem_mem hk)))
 refine Tri.free2 fun R HR=>?_
 show Tri _ _ _ [.agg [.int .i64 q.kind,q.gv,q.sv].toArray,_] _ _
 by_cases hk1:q.kind=1
 · rw [if_pos hk1] at HR
   refine ae Tryz.func35 Tryz.ntmps35 ?_
   repeat' (first|((with_reducible apply kx_box (d:=some 2));rfl;(exact qcl);intro b2;(refine apk ?_))|((with_reducible apply kx_box (d:=some 3));rfl;(exact qcl);intro b3;(refine apk ?_))|((with_reducible apply kx_alloc (E:=4));exact ty_zero;(exact qcl);intro b5;(refine apk ?_))|exact xf|refine aw0 ?_|(refine ap2 ?_ ?_<;>try intro h)|refine aw1 ?_|(refine abx ?_;intro bb)|(refine abz ?_;intro bz)|(refine ahv ?_;intro v' hv')|(refine aac ?_;intro ac cc)|refine aw2 ?_|(refine ap4 ?_ ?_<;>try intro h)|apply True.intro)
   ((with_reducible apply fp_ret);exact res_1 rfl rfl)
   exact HR.out _ _ _ [] Takes.all ⟨rfl,rfl⟩
 rw [if_neg hk1] at HR
 by_cases hk:q.kind=3\/q.kind=4
 · rw [if_pos hk] at HR
   obtain ⟨one,ho,hk⟩ : ∃ one,decide (q.kind=4)=one/\((q.kind=3/\one=false)\/(q.kind=4/\one=true)):=by
    rcases hk with h|h
    · exact ⟨_,rfl,.inl ⟨h,decide_eq_false (by omega)⟩⟩
    · exact ⟨_,rfl,.inr ⟨h,decide_eq_true h⟩⟩
   rw [ho] at HR
   have hd1:=hc1 one
   have hd2:=hc2 one
   generalize (q.grams.any fun g=>decide (there g=one))=x at *
   generalize (q.subs.any fun s=>decide (satQ there s.key=one))=y at *
   clear hc1 hc2
   rcases hk with ⟨hk,rfl⟩ | ⟨hk,rfl⟩<;>cases x
   all_goals
    refine ae Tryz.func35 Tryz.ntmps35 ?_
    repeat' (first|(rw [ho])|((with_reducible apply kx_box (d:=some 2));rfl;(exact qcl);intro b2;(refine apk ?_))|((with_reducible apply kx_box (d:=some 3));rfl;(exact qcl);intro b3;(refine apk ?_))|((with_reducible apply kx_alloc (E:=4));exact ty_zero;(exact qcl);intro b5;(refine apk ?_))|(((with_reducible apply sw_draw (id:=8) 13 [(0,true),(1,true),(2,true),(3,true),(4,true),(5,false),(6,true),(7,true),(8,true),(9,true),(10,false),(11,true),(12,true)] [(13,false)] [(b2,.cells [.int .i64 q.kind,q.gv,q.sv].toArray 38 (0,0)),(b3,.cells [.map (some b)].toArray 78 (0,0)),(b5,.cells [.bool false].toArray 4 (0,0))]);kernel_rfl;(exact atks);kernel_rfl;intro r' hl');have he3:=Lent.h2 hl';have he5:=Lent.h3 hl')|(((with_reducible apply sw_draw (id:=8) 13 [(0,true),(1,true),(2,true),(3,true),(4,true),(5,false),(6,true),(7,true),(8,true),(9,true),(10,false),(11,true),(12,true)] [(13,false)] [(b2,.cells [.int .i64 q.kind,q.gv,q.sv].toArray 38 (0,0)),(b3,.cells [.map (some b)].toArray 78 (0,0)),(b5,.cells [.bool true].toArray 4 (0,0))]);kernel_rfl;(exact atks);kernel_rfl;intro r' hl');have he3:=Lent.h2 hl';have he5:=Lent.h3 hl')|(refine acl Tryz.func60 ?_;refine acr (hd1 _ b3 b5 hl'.1 he3 he5) ?_;rintro v' H' ⟨rfl,rfl⟩;refine apl ?_)|(refine acl Tryz.func62 ?_;refine acr (hd2 _ b3 b5 hl'.1 he3 he5) ?_;rintro v' H' ⟨rfl,rfl⟩;refine apl ?_)|exact xf|refine aw0 ?_|(refine ap2 ?_ ?_<;>try intro h)|refine aw1 ?_|(refine abx ?_;intro bb)|(refine abz ?_;intro bz)|(refine ahv ?_;intro v' hv')|(refine aac ?_;intro ac cc)|refine aw2 ?_|(refine ap4 ?_ ?_<;>try intro h)|apply True.intro)
   all_goals
    ((with_reducible apply fp_ret);exact res_1 rfl rfl)
    exact HR.out _ _ _ [] Takes.all ⟨by first|rfl|(cases y<;>rfl),rfl⟩
 · rw [if_neg hk] at HR
   refine ae Tryz.func35 Tryz.ntmps35 ?_
   repeat' (first|((with_reducible apply kx_box (d:=some 2));rfl;(exact qcl);intro b2;(refine apk ?_))|((with_reducible apply kx_box (d:=some 3));rfl;(exact qcl);intro b3;(refine apk ?_))|((with_reducible apply kx_alloc (E:=4));exact ty_zero;(exact qcl);intro b5;(refine apk ?_))|exact xf|refine aw0 ?_|(refine ap2 ?_ ?_<;>try intro h)|refine aw1 ?_|(refine abx ?_;intro bb)|(refine abz ?_;intro bz)|(refine ahv ?_;intro v' hv')|(refine aac ?_;intro ac cc)|refine aw2 ?_|(refine ap4 ?_ ?_<;>try intro h)|apply True.intro)
   ((with_reducible apply fp_ret);exact res_1 rfl rfl)
   exact HR.out _ _ _ [] Takes.all ⟨rfl,rfl⟩
theorem sat_all2 (there:Tx->Bool) : ∀ q:QuV,sizeQ q.key<=9000000->SatT there q
 | .mk k gv gs sv ss=>fun h r b hM hq=>sat_of r b there hM _ hq h fun s _h=>sat_all2 there s (by
  have h1:sizeQ s.key<=sizeQs (ss.map QuV.key):=sizeQs_mem (List.mem_map_of_mem _h)
  rw [key_mk] at h
  simp only [sizeQ] at h
  omega)
termination_by q=>SizeOf.sizeOf q
decreasing_by
 have:=List.sizeOf_lt_of_mem _h
 simp only [QuV.mk.sizeOf_spec,QuV.subs] at *
 omega
def hasT (gs:List Tx) (s:Tx):Bool:=decide (s∈gs) && decide (s.length=3)
theorem sat_any (r:Hp) (v:Value) (q:QuV) (gs:List Tx) (hq:QuR r q) (hv:Els r 1 encTx v gs) (hs:sizeQ q.key<=9000000) (hg:sizeT gs<=9000000):Tri Tryz.prog r 14 [.agg (encQ q).toArray,v] [] fun w H=>w = .bool (satQ (hasT gs) q.key)/\H=[]:=by
 have hlm:=maxI hv.2.2.1
 have hgl:=sizeT_len gs
 have hsa:=fun r' b (h:sub r r') (hM:SaysR Tryz.prog 9 r' b (hasT gs))=>sat_all2 (hasT gs) q hs r' b hM (hq.mono h)
 rw [show encQ q=[.int .i64 q.kind,q.gv,q.sv] from rfl] at hsa ⊢
 generalize satQ (hasT gs) q.key=res at *
 have h1:=(quR_iff.1 hq).1
 have h2:=(quR_iff.1 hq).2.1
 refine Tri.free2 fun R HR=>?_
 refine ae Tryz.func14 Tryz.ntmps14 ?_
 repeat' (first|((with_reducible apply kx_box);rfl;(exact qcl);intro b2;(refine apk ?_))|((with_reducible apply kx_mmake 9);intro bm;(refine apk ?_))|exact xf|refine aw0 ?_|(refine ap2 ?_ ?_<;>try intro h)|refine aw1 ?_|(refine abx ?_;intro bb)|(refine abz ?_;intro bz)|(refine ahv ?_;intro v' hv')|(refine aac ?_;intro ac cc)|refine aw2 ?_|(refine ap4 ?_ ?_<;>try intro h)|apply True.intro)
 refine sw_loop (fun gm t H' => ∃ (i:Nat) (M:Lit->Option Value),gm=gs.length+1 - i/\(i<=gs.length)/\(∀ s:Tx,(M (.string s)).getD (.bool false) = .bool (hasT (gs.take i) s))/\(∃ G,Takes [pt b2 (.cells [.int .i64 q.kind,q.gv,q.sv].toArray 38 (0,0)),MapC Tryz.prog 9 bm i M] H' G)/\Sls t 23 [(2,.pointer (some ⟨b2,0,none⟩)),(5,.map (some bm)),(9,v),(10,.int .i64 gs.length),(11,.int .i64 i)]) _ ⟨0,(fun _=>none),rfl,Nat.zero_le _,(fun s=>by simp [hasT]),⟨_,atks⟩,asls⟩ ?_
 rintro gm t H' ⟨i,M,rfl,hi,hM,⟨G,hp⟩,hs'⟩
 revert t;refine sls_all ?_;iterate 18 intro uu'
 refine sw_takeG hp ?_;clear hp
 by_cases hlt:i<gs.length
 · obtain ⟨g,hx⟩ : ∃ g,gs.getD i default=g:=⟨_,rfl⟩
   have hgm:=sizeT_mem (hx ▸ getD_memU hlt)
   have htk:gs.take (i+1)=gs.take i++[g]:=by rw [take_getD (d:=default) hlt,hx]
   have hgr:=gram_any r g
   repeat' (first|(rw [hx])|(refine acl Tryz.func34 ?_;refine acr (hgr) ?_;rintro v' H' ⟨rfl,rfl⟩;refine apl ?_)|((with_reducible apply kx_mputS (kt:=9) (et:=4) (g:=g));kernel_rfl;exact Tryz.underlying9;rfl;rfl;rfl;(unfold maxLen;omega);(exact atk);(unfold maxLen;omega);intro M2 hM2;(refine apk ?_))|exact xf|refine aw0 ?_|(refine ap2 ?_ ?_<;>try intro h)|refine aw1 ?_|(refine abx ?_;intro bb)|(refine abz ?_;intro bz)|(refine ahv ?_;intro v' hv')|(refine aac ?_;intro ac cc)|refine aw2 ?_|(refine ap4 ?_ ?_<;>try intro h)|apply True.intro)
   exact ⟨_,by omega,i+1,M2,rfl,by omega,(fun s=>by
    rw [hM2,htk]
    by_cases e:s=g
    · rw [if_pos e];simp [hasT,e]
    · rw [if_neg e,hM];simp [hasT,e]),⟨_,atks⟩,asls⟩
 · obtain rfl:i=gs.length:=by omega
   rw [List.take_length] at hM
   repeat' (first|((with_reducible apply kx_lendC (A:=MapC Tryz.prog 9 bm gs.length M));(with_reducible (exact atk));intro r1 g1 hr1 hg1 hA1;(refine acl Tryz.func35 ?_;refine acr (hsa r1 bm hr1 ⟨_,M,g1,hA1,hg1,hM⟩) ?_;rintro v' H' ⟨rfl,rfl⟩;refine apl ?_))|exact xf|refine aw0 ?_|(refine ap2 ?_ ?_<;>try intro h)|refine aw1 ?_|(refine abx ?_;intro bb)|(refine abz ?_;intro bz)|(refine ahv ?_;intro v' hv')|(refine aac ?_;intro ac cc)|refine aw2 ?_|(refine ap4 ?_ ?_<;>try intro h)|apply True.intro)
   ((with_reducible apply fp_ret);exact res_1 rfl rfl)
   exact HR.out _ _ _ [] Takes.all ⟨rfl,rfl⟩
end Go.Proofs.YteknekiclhnkiaaGreatDoor
