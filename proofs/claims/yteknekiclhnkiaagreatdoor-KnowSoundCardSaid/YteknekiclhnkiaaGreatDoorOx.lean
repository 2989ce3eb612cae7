/- know.Of at trees whose parts fit; literals' trees fit; mudlarklaw17.one, of, star: their contracts. -/
import Derived.Test.YteknekiclhnkiaaGreatDoorOt
import Derived.Test.YteknekiclhnkiaaGreatDoorMp
import Derived.Test.YteknekiclhnkiaaGreatDoorUi
set_option maxHeartbeats 8000000
set_option maxRecDepth 10000
namespace Go.Proofs.YteknekiclhnkiaaGreatDoor
open Go.RowKit Go.Maps Sx
def OfT (n:NoV):Prop := ∀ r:Hp,TabR r->NoR r n->Tri Tryz.prog r 9 [.agg (encN n).toArray] [] fun w H => ∃ u:InfV,u.key=ofI n.key/\(encQ u.q).all one?=true/\w = .agg [.bool u.known,.slice u.ea u.ex.length u.ec,.slice u.pa u.pre.length u.pc,.slice u.sa u.suf.length u.sc,.int .i64 u.q.kind,u.q.gv,u.q.sv].toArray/\H=[OwnI u]
def FoldOk (o:InfK) (l:List InfK):Prop := ∀ j,1<=j->j<l.length->FitB (joinI o behindI (l.take j)) (l.getD j default)
theorem joinI_snoc (o:InfK) : ∀ (l:List InfK) (x:InfK),l≠[]->joinI o behindI (l++[x])=behindI (joinI o behindI l) x
 | [],_,h=>absurd rfl h
 | y::l,x,_=>by simp [joinI,List.foldl_append]
theorem behindO_any (r:Hp) (hT:TabR r) (i b:InfV) (oi:(encQ i.q).all one?=true) (ob:(encQ b.q).all one?=true) (hf:FitB i.key b.key):Tri Tryz.prog r 44 [.agg [.bool i.known,.slice i.ea i.ex.length i.ec,.slice i.pa i.pre.length i.pc,.slice i.sa i.suf.length i.sc,.int .i64 i.q.kind,i.q.gv,i.q.sv].toArray,.agg [.bool b.known,.slice b.ea b.ex.length b.ec,.slice b.pa b.pre.length b.pc,.slice b.sa b.suf.length b.sc,.int .i64 b.q.kind,b.q.gv,b.q.sv].toArray] [OwnI i,OwnI b] fun w H => ∃ u:InfV,u.key=behindI i.key b.key/\(encQ u.q).all one?=true/\w = .agg [.bool u.known,.slice u.ea u.ex.length u.ec,.slice u.pa u.pre.length u.pc,.slice u.sa u.suf.length u.sc,.int .i64 u.q.kind,u.q.gv,u.q.sv].toArray/\H=[OwnI u] :=
 Tri.frz fun _r1 _g1 s1 t1 h1=>Tri.frz fun r2 _g2 s2 t2 h2=>behind_any r2 (hT.mono (Sx.sub.trans s1 s2)) i b ((ownI_read h1 t1).mono s2) (ownI_read h2 t2) oi ob hf
theorem joined_of (r:Hp) (hT:TabR r) (k:Int) (s0 s1 s2 s3:Nat) (kv:Value) (l:List NoV) (mn mx:Int) (lz:Bool) (gr:Int) (hl:Els r 10 encN kv l) (_hk1:one? kv=true) (hr : ∀ x∈l,NoR r x) (ih : ∀ x∈l,OfT x) (o:InfV) (oo:(encQ o.q).all one?=true) (hfo:FoldOk o.key (l.map fun x=>ofI x.key)):Tri Tryz.prog r 43 [.agg [.int .i64 k,.int .u64 s0,.int .u64 s1,.int .u64 s2,.int .u64 s3,kv,.int .i64 mn,.int .i64 mx,.bool lz,.int .i64 gr].toArray,.agg [.bool o.known,.slice o.ea o.ex.length o.ec,.slice o.pa o.pre.length o.pc,.slice o.sa o.suf.length o.sc,.int .i64 o.q.kind,o.q.gv,o.q.sv].toArray,.func (.func 44) #[] #[]] [OwnI o] fun w H => ∃ u:InfV,u.key=joinI o.key behindI (l.map fun x=>ofI x.key)/\(encQ u.q).all one?=true/\w = .agg [.bool u.known,.slice u.ea u.ex.length u.ec,.slice u.pa u.pre.length u.pc,.slice u.sa u.suf.length u.sc,.int .i64 u.q.kind,u.q.gv,u.q.sv].toArray/\H=[OwnI u]:=by
 have hlm:=maxI hl.2.2.1
 refine Tri.free2 fun R HR=>?_
 refine ae Tryz.func43 Tryz.ntmps43 ?_
 repeat' (first|((with_reducible apply kx_box (v:= .agg [.int .i64 k,.int .u64 s0,.int .u64 s1,.int .u64 s2,.int .u64 s3,kv,.int .i64 mn,.int .i64 mx,.bool lz,.int .i64 gr].toArray));rfl;(exact qcl);intro b3;(refine apk ?_))|((with_reducible apply kx_box (v:= .agg [.bool o.known,.slice o.ea o.ex.length o.ec,.slice o.pa o.pre.length o.pc,.slice o.sa o.suf.length o.sc,.int .i64 o.q.kind,o.q.gv,o.q.sv].toArray));rfl;(exact qcl);intro b4;(refine apk ?_))|((with_reducible apply kx_alloc (E:=40));exact ty_zero;(exact qcl);intro b6;(refine apk ?_))|exact xf|refine aw0 ?_|(refine ap2 ?_ ?_<;>try intro h)|refine aw1 ?_|(refine abx ?_;intro bb)|(refine abz ?_;intro bz)|(refine ahv ?_;intro v' hv')|(refine aac ?_;intro ac cc)|refine aw2 ?_|(refine ap4 ?_ ?_<;>try intro h)|apply True.intro)
 refine sw_loop (fun gm t H' => ∃ (j:Nat) (cur:InfV),gm=l.length+1 - j/\(j<=l.length)/\(cur.key=joinI o.key behindI ((l.map fun x=>ofI x.key).take j))/\((encQ cur.q).all one?=true)/\(∃ G,Takes [pt b4 (.cells [.bool cur.known,.slice cur.ea cur.ex.length cur.ec,.slice cur.pa cur.pre.length cur.pc,.slice cur.sa cur.suf.length cur.sc,.int .i64 cur.q.kind,cur.q.gv,cur.q.sv].toArray 40 (0,0)),pt b6 (.cells [.bool false,.slice none 0 0,.slice none 0 0,.slice none 0 0,.int .i64 0,.slice none 0 0,.slice none 0 0].toArray 40 (0,0)),OwnI cur] H' G)/\Sls t 31 [(2,.func (.func 44) #[] #[]),(4,.pointer (some ⟨b4,0,none⟩)),(6,.pointer (some ⟨b6,0,none⟩)),(13,kv),(14,.int .i64 l.length),(15,.int .i64 j)]) _ ⟨0,o,rfl,Nat.zero_le _,rfl,oo,⟨_,atks⟩,asls⟩ ?_
 rintro gm t H' ⟨j,cur,rfl,hj,hck,hco,⟨G,hp⟩,hs'⟩
 revert t;refine sls_all ?_;iterate 25 intro uu'
 refine sw_takeG hp ?_;clear hp
 by_cases hlt:j<l.length
 · obtain ⟨x,hx⟩ : ∃ x,l.getD j default=x:=⟨_,rfl⟩
   have hxm:x∈l:=hx ▸ getD_memU hlt
   have hxr:=hr x hxm
   have hof:=ih x hxm r hT hxr
   have hml:(l.map fun x=>ofI x.key).getD j default=ofI x.key:=by
    rw [List.getD_eq_getElem?_getD,List.getElem?_map,List.getElem?_eq_getElem hlt,← hx,List.getD_eq_getElem?_getD,List.getElem?_eq_getElem hlt];rfl
   have htk:(l.map fun x=>ofI x.key).take (j+1)=(l.map fun x=>ofI x.key).take j++[ofI x.key]:=by
    rw [take_getD (d:=default) (by rw [List.length_map];exact hlt),hml]
   have hfj:=hfo j
   rw [hml,← hck,List.length_map] at hfj
   obtain ⟨xk,x0,x1,x2,x3,xv,xl,xmn,xmx,xlz,xg⟩:=x
   have hse:encN (.mk xk x0 x1 x2 x3 xv xl xmn xmx xlz xg)=[.int .i64 xk,.int .u64 x0,.int .u64 x1,.int .u64 x2,.int .u64 x3,xv,.int .i64 xmn,.int .i64 xmx,.bool xlz,.int .i64 xg]:=rfl
   have hx1:one? xv=true:=by simp only [NoR] at hxr;exact hxr.2.2.2.2.2.2.2
   have hN:([.int .i64 xk,.int .u64 x0,.int .u64 x1,.int .u64 x2,.int .u64 x3,xv,.int .i64 xmn,.int .i64 xmx,.bool xlz,.int .i64 xg]:List Value).all one?=true:=by
    simp only [List.all_cons,List.all_nil,hx1,Bool.and_true];rfl
   rw [hse] at hof
   obtain ⟨U,hU⟩ : ∃ U,ofI (NoV.key (.mk xk x0 x1 x2 x3 xv xl xmn xmx xlz xg))=U:=⟨_,rfl⟩
   rw [hU] at hof htk hfj
   clear hxr hml hxm
   by_cases h0:j=0
   · have hnx:joinI o.key behindI ((l.map fun x=>ofI x.key).take (j+1))=U:=by rw [htk,h0];rfl
     repeat' (first|(rw [hx])|(rw [hse])|((with_reducible apply kx_alloc (E:=28));exact ty_zero;(exact qcl);intro b8;(refine apk ?_))|((with_reducible apply kx_alloc (E:=40));exact ty_zero;(exact qcl);intro b9;(refine apk ?_))|(refine acl Tryz.func9 ?_;refine acr (hof) ?_;rintro v' H' ⟨u,hu1,hu2,rfl,rfl⟩;refine apl ?_)|((with_reducible apply kx_storeN);exact ty_size;rfl;rfl;rfl;(exact qsw);exact hN;(exact qst);(refine apk ?_))|((with_reducible apply kx_storeN);exact ty_size;rfl;rfl;rfl;(exact qsw);exact encI_one hu2;(exact qst);(refine apk ?_))|exact xf|refine aw0 ?_|(refine ap2 ?_ ?_<;>try intro h)|refine aw1 ?_|(refine abx ?_;intro bb)|(refine abz ?_;intro bz)|(refine ahv ?_;intro v' hv')|(refine aac ?_;intro ac cc)|refine aw2 ?_|(refine ap4 ?_ ?_<;>try intro h)|apply True.intro)
     exact ⟨_,by omega,j+1,u,rfl,by omega,by rw [hnx,hu1],hu2,⟨_,atks⟩,asls⟩
   · have hnx:joinI o.key behindI ((l.map fun x=>ofI x.key).take (j+1))=behindI cur.key U:=by
      rw [htk,joinI_snoc _ _ _ (fun e=>by have:=congrArg List.length e;rw [List.length_take,List.length_map,List.length_nil] at this;omega),← hck]
     have hfj2:=hfj (by omega) hlt
     have hbe:=fun (u:InfV) (h1:u.key=U) (h2:(encQ u.q).all one?=true)=>behindO_any r hT cur u hco h2 (by rw [h1];exact hfj2)
     repeat' (first|(rw [hx])|(rw [hse])|((with_reducible apply kx_alloc (E:=28));exact ty_zero;(exact qcl);intro b8;(refine apk ?_))|((with_reducible apply kx_alloc (E:=40));exact ty_zero;(exact qcl);intro b9;(refine apk ?_))|(refine acl Tryz.func9 ?_;refine acr (hof) ?_;rintro v' H' ⟨u,hu1,hu2,rfl,rfl⟩;refine apl ?_)|((with_reducible apply kx_storeN);exact ty_size;rfl;rfl;rfl;(exact qsw);exact hN;(exact qst);(refine apk ?_))|((with_reducible apply kx_storeN);exact ty_size;rfl;rfl;rfl;(exact qsw);exact encI_one hu2;(exact qst);(refine apk ?_))|(refine acl Tryz.func44 ?_;refine acr (hbe u hu1 hu2) ?_;rintro v' H' ⟨v,hv1,hv2,rfl,rfl⟩;refine apl ?_)|((with_reducible apply kx_storeN);exact ty_size;rfl;rfl;rfl;(exact qsw);exact encI_one hv2;(exact qst);(refine apk ?_))|exact xf|refine aw0 ?_|(refine ap2 ?_ ?_<;>try intro h)|refine aw1 ?_|(refine abx ?_;intro bb)|(refine abz ?_;intro bz)|(refine ahv ?_;intro v' hv')|(refine aac ?_;intro ac cc)|refine aw2 ?_|(refine ap4 ?_ ?_<;>try intro h)|apply True.intro)
     exact ⟨_,by omega,j+1,v,rfl,by omega,by rw [hnx,hv1,hu1],hv2,⟨_,atks⟩,asls⟩
 · obtain rfl:j=l.length:=by omega
   rw [List.take_of_length_le (by rw [List.length_map];omega)] at hck
   repeat' (first|((with_reducible apply kx_storeN);exact ty_size;rfl;rfl;rfl;(exact qsw);exact encI_one hco;(exact qst);(refine apk ?_))|exact xf|refine aw0 ?_|(refine ap2 ?_ ?_<;>try intro h)|refine aw1 ?_|(refine abx ?_;intro bb)|(refine abz ?_;intro bz)|(refine ahv ?_;intro v' hv')|(refine aac ?_;intro ac cc)|refine aw2 ?_|(refine ap4 ?_ ?_<;>try intro h)|apply True.intro)
   ((with_reducible apply fp_ret);exact res_W rfl rfl atk ty_agg ty_size rfl)
   exact HR.out _ _ _ [OwnI cur] atks ⟨cur,hck,hco,rfl,rfl⟩
theorem cat_of (r:Hp) (hT:TabR r) (k:Int) (s0 s1 s2 s3:Nat) (kv:Value) (l:List NoV) (mn mx:Int) (lz:Bool) (gr:Int) (hl:Els r 10 encN kv l) (hk1:one? kv=true) (hr : ∀ x∈l,NoR r x) (ih : ∀ x∈l,OfT x) (hfo:FoldOk (exactI [[]]) (l.map fun x=>ofI x.key)):Tri Tryz.prog r 27 [.agg [.int .i64 k,.int .u64 s0,.int .u64 s1,.int .u64 s2,.int .u64 s3,kv,.int .i64 mn,.int .i64 mx,.bool lz,.int .i64 gr].toArray] [] fun w H => ∃ u:InfV,u.key=joinI (exactI [[]]) behindI (l.map fun x=>ofI x.key)/\(encQ u.q).all one?=true/\w = .agg [.bool u.known,.slice u.ea u.ex.length u.ec,.slice u.pa u.pre.length u.pc,.slice u.sa u.suf.length u.sc,.int .i64 u.q.kind,u.q.gv,u.q.sv].toArray/\H=[OwnI u]:=by
 have hno:=none_any r hT (.mk k s0 s1 s2 s3 kv l mn mx lz gr)
 rw [show encN (.mk k s0 s1 s2 s3 kv l mn mx lz gr)=[.int .i64 k,.int .u64 s0,.int .u64 s1,.int .u64 s2,.int .u64 s3,kv,.int .i64 mn,.int .i64 mx,.bool lz,.int .i64 gr] from rfl] at hno
 have hjo:=fun (o:InfV) (h1:o.key=exactI [[]]) (h2:(encQ o.q).all one?=true)=>joined_of r hT k s0 s1 s2 s3 kv l mn mx lz gr hl hk1 hr ih o h2 (by rw [h1];exact hfo)
 have hjo2 : ∀ (o:InfV),o.key=exactI [[]]->(encQ o.q).all one?=true->Tri Tryz.prog r 43 [.agg [.int .i64 k,.int .u64 s0,.int .u64 s1,.int .u64 s2,.int .u64 s3,kv,.int .i64 mn,.int .i64 mx,.bool lz,.int .i64 gr].toArray,.agg [.bool o.known,.slice o.ea o.ex.length o.ec,.slice o.pa o.pre.length o.pc,.slice o.sa o.suf.length o.sc,.int .i64 o.q.kind,o.q.gv,o.q.sv].toArray,.func (.func 44) #[] #[]] [OwnI o] fun w H => ∃ u:InfV,u.key=joinI (exactI [[]]) behindI (l.map fun x=>ofI x.key)/\(encQ u.q).all one?=true/\w = .agg [.bool u.known,.slice u.ea u.ex.length u.ec,.slice u.pa u.pre.length u.pc,.slice u.sa u.suf.length u.sc,.int .i64 u.q.kind,u.q.gv,u.q.sv].toArray/\H=[OwnI u]:=fun o h1 h2=>by
  have h:=hjo o h1 h2
  rw [h1] at h
  exact h
 clear hjo
 refine Tri.free2 fun R HR=>?_
 refine ae Tryz.func27 Tryz.ntmps27 ?_
 repeat' (first|((with_reducible apply kx_box);rfl;(exact qcl);intro b1;(refine apk ?_))|((with_reducible apply kx_alloc (E:=40));exact ty_zero;(exact qcl);intro b2;(refine apk ?_))|((with_reducible apply sw_draw (id:=1) 4 [(0,true),(1,true),(2,false),(3,false)] [(4,false)] [(b1,.cells [.int .i64 k,.int .u64 s0,.int .u64 s1,.int .u64 s2,.int .u64 s3,kv,.int .i64 mn,.int .i64 mx,.bool lz,.int .i64 gr].toArray 65 (0,0))]);kernel_rfl;(exact atks);kernel_rfl;intro r' hl')|((with_reducible apply pi_pur);rfl;(exact qwt);(with_reducible apply pu_ldP);rfl;(first|assumption|exact Lent.h1 hl'|exact Lent.h2 hl'|exact Lent.h3 hl');(simp only [cut,List.drop_zero,List.take_succ_cons,List.take_zero];rfl);rfl;(refine apk ?_))|(refine acl Tryz.func25 ?_;refine acr (hno.up hl'.1) ?_;rintro v' H' ⟨o,ho1,ho2,rfl,rfl⟩;refine apl ?_)|(refine acl Tryz.func43 ?_;refine acr ((hjo2 o ho1 ho2).up hl'.1) ?_;rintro v' H' ⟨u,hu1,hu2,rfl,rfl⟩;refine apl ?_)|((with_reducible apply kx_storeN);exact ty_size;rfl;rfl;rfl;(exact qsw);exact encI_one hu2;(exact qst);(refine apk ?_))|exact xf|refine aw0 ?_|(refine ap2 ?_ ?_<;>try intro h)|refine aw1 ?_|(refine abx ?_;intro bb)|(refine abz ?_;intro bz)|(refine ahv ?_;intro v' hv')|(refine aac ?_;intro ac cc)|refine aw2 ?_|(refine ap4 ?_ ?_<;>try intro h)|apply True.intro)
 ((with_reducible apply fp_ret);exact res_W rfl rfl atk ty_agg ty_size rfl)
 exact HR.out _ _ _ [OwnI u] atks ⟨u,hu1,hu2,rfl,rfl⟩
theorem repeat_of (r:Hp) (hT:TabR r) (k:Int) (s0 s1 s2 s3:Nat) (kv:Value) (mn mx:Int) (lz:Bool) (gr:Int) (h1:mn<1) (h2:¬ mx=0) (h3:¬ mx=1):Tri Tryz.prog r 29 [.agg [.int .i64 k,.int .u64 s0,.int .u64 s1,.int .u64 s2,.int .u64 s3,kv,.int .i64 mn,.int .i64 mx,.bool lz,.int .i64 gr].toArray] [] fun w H => ∃ u:InfV,u.key=openI/\(encQ u.q).all one?=true/\w = .agg [.bool u.known,.slice u.ea u.ex.length u.ec,.slice u.pa u.pre.length u.pc,.slice u.sa u.suf.length u.sc,.int .i64 u.q.kind,u.q.gv,u.q.sv].toArray/\H=[OwnI u]:=by
 have hop:=open_any r hT
 have h4:¬ mn=1:=by omega
 refine Tri.free2 fun R HR=>?_
 refine ae Tryz.func29 Tryz.ntmps29 ?_
 repeat' (first|((with_reducible apply kx_box);rfl;(exact qcl);intro b1;(refine apk ?_))|((with_reducible apply kx_alloc (E:=40));exact ty_zero;(exact qcl);intro b2;(refine apk ?_))|(refine acl Tryz.func42 ?_;refine acr (hop) ?_;rintro v' H' ⟨u,hu1,hu2,rfl,rfl⟩;refine apl ?_)|((with_reducible apply kx_storeN);exact ty_size;rfl;rfl;rfl;(exact qsw);exact encI_one hu2;(exact qst);(refine apk ?_))|exact xf|refine aw0 ?_|(refine ap2 ?_ ?_<;>try intro h)|refine aw1 ?_|(refine abx ?_;intro bb)|(refine abz ?_;intro bz)|(refine ahv ?_;intro v' hv')|(refine aac ?_;intro ac cc)|refine aw2 ?_|(refine ap4 ?_ ?_<;>try intro h)|apply True.intro)
 ((with_reducible apply fp_ret);exact res_W rfl rfl atk ty_agg ty_size rfl)
 exact HR.out _ _ _ [OwnI u] atks ⟨u,hu1,hu2,rfl,rfl⟩
def askM:Lit->Option Value:=upd (upd (upd (upd (upd (upd (upd (upd (upd (upd (upd (upd (fun _=>none) (.int .i64 1) (.func (.func 25) #[] #[])) (.int .i64 3) (.func (.func 26) #[] #[])) (.int .i64 4) (.func (.func 27) #[] #[])) (.int .i64 5) (.func (.func 28) #[] #[])) (.int .i64 6) (.func (.func 29) #[] #[])) (.int .i64 7) (.func (.func 30) #[] #[])) (.int .i64 8) (.func (.func 25) #[] #[])) (.int .i64 9) (.func (.func 25) #[] #[])) (.int .i64 10) (.func (.func 25) #[] #[])) (.int .i64 11) (.func (.func 25) #[] #[])) (.int .i64 12) (.func (.func 25) #[] #[])) (.int .i64 13) (.func (.func 25) #[] #[])
theorem askM3:askM (.int .i64 3)=some (.func (.func 26) #[] #[]):=by simp [askM,upd,Lit.sameKey]
theorem askM4:askM (.int .i64 4)=some (.func (.func 27) #[] #[]):=by simp [askM,upd,Lit.sameKey]
theorem askM6:askM (.int .i64 6)=some (.func (.func 29) #[] #[]):=by simp [askM,upd,Lit.sameKey]
theorem nk_key (k:Int) (h : -100<=k/\k<=100):keyOf Tryz.prog 22 (.int .i64 k)=some (.int .i64 k):=keyOf_int_mk Tryz.underlying22 (by simp [Lit.wf,IntKind.min,IntKind.max,IntKind.signed,IntKind.bits];omega)
theorem ofSet_any (r:Hp) (hT:TabR r) (s0 s1 s2 s3:Nat) (kv:Value) (l:List NoV) (mn mx:Int) (lz:Bool) (gr:Int) (hn:NoR r (.mk 3 s0 s1 s2 s3 kv l mn mx lz gr)):Tri Tryz.prog r 9 [.agg [.int .i64 3,.int .u64 s0,.int .u64 s1,.int .u64 s2,.int .u64 s3,kv,.int .i64 mn,.int .i64 mx,.bool lz,.int .i64 gr].toArray] [] fun w H => ∃ u:InfV,u.key=setI [s0,s1,s2,s3]/\(encQ u.q).all one?=true/\w = .agg [.bool u.known,.slice u.ea u.ex.length u.ec,.slice u.pa u.pre.length u.pc,.slice u.sa u.suf.length u.sc,.int .i64 u.q.kind,u.q.gv,u.q.sv].toArray/\H=[OwnI u]:=by
 have hkn:=nk_key
 have hget:=askM3
 have hcall:Tri Tryz.prog r 26 [.agg [.int .i64 3,.int .u64 s0,.int .u64 s1,.int .u64 s2,.int .u64 s3,kv,.int .i64 mn,.int .i64 mx,.bool lz,.int .i64 gr].toArray] [] fun w H => ∃ u:InfV,u.key=setI [s0,s1,s2,s3]/\(encQ u.q).all one?=true/\w = .agg [.bool u.known,.slice u.ea u.ex.length u.ec,.slice u.pa u.pre.length u.pc,.slice u.sa u.suf.length u.sc,.int .i64 u.q.kind,u.q.gv,u.q.sv].toArray/\H=[OwnI u]:=by
  have h:=set_any r hT (.mk 3 s0 s1 s2 s3 kv l mn mx lz gr) hn
  simp only [NoV.key,Nd.set] at h
  exact h
 refine Tri.free2 fun R HR=>?_
 refine ae Tryz.func9 Tryz.ntmps9 ?_
 repeat' (first|((with_reducible apply kx_box);rfl;(exact qcl);intro b1;(refine apk ?_))|((with_reducible apply kx_alloc (E:=40));exact ty_zero;(exact qcl);intro b2;(refine apk ?_))|((with_reducible apply kx_mmake 22);intro bm;(refine apk ?_))|((with_reducible apply kx_mins (kt:=22) (et:=59));kernel_rfl;exact (int_keyed Tryz.underlying22);rfl;rfl;rfl;exact hkn _ (by omega);(exact atk);(unfold maxLen;omega);(refine apk ?_))|((with_reducible apply kx_mgetS (kt:=22) (et:=59));kernel_rfl;exact (int_keyed Tryz.underlying22);exact ty_zero;rfl;rfl;exact hkn _ (by omega);(exact atk);exact hget;(refine apk ?_))|(refine acl Tryz.func26 ?_;refine acr (hcall) ?_;rintro v' H' ⟨u,hu1,hu2,rfl,rfl⟩;refine apl ?_)|((with_reducible apply kx_storeN);exact ty_size;rfl;rfl;rfl;(exact qsw);exact encI_one hu2;(exact qst);(refine apk ?_))|exact xf|refine aw0 ?_|(refine ap2 ?_ ?_<;>try intro h)|refine aw1 ?_|(refine abx ?_;intro bb)|(refine abz ?_;intro bz)|(refine ahv ?_;intro v' hv')|(refine aac ?_;intro ac cc)|refine aw2 ?_|(refine ap4 ?_ ?_<;>try intro h)|apply True.intro)
 ((with_reducible apply fp_ret);exact res_W rfl rfl atk ty_agg ty_size rfl)
 exact HR.out _ _ _ [OwnI u] atks ⟨u,hu1,hu2,rfl,rfl⟩
theorem ofCat_any (r:Hp) (hT:TabR r) (s0 s1 s2 s3:Nat) (kv:Value) (l:List NoV) (mn mx:Int) (lz:Bool) (gr:Int) (hl:Els r 10 encN kv l) (hk1:one? kv=true) (hr : ∀ x∈l,NoR r x) (ih : ∀ x∈l,OfT x) (hfo:FoldOk (exactI [[]]) (l.map fun x=>ofI x.key)):Tri Tryz.prog r 9 [.agg [.int .i64 4,.int .u64 s0,.int .u64 s1,.int .u64 s2,.int .u64 s3,kv,.int .i64 mn,.int .i64 mx,.bool lz,.int .i64 gr].toArray] [] fun w H => ∃ u:InfV,u.key=joinI (exactI [[]]) behindI (l.map fun x=>ofI x.key)/\(encQ u.q).all one?=true/\w = .agg [.bool u.known,.slice u.ea u.ex.length u.ec,.slice u.pa u.pre.length u.pc,.slice u.sa u.suf.length u.sc,.int .i64 u.q.kind,u.q.gv,u.q.sv].toArray/\H=[OwnI u]:=by
 have hkn:=nk_key
 have hget:=askM4
 have hcall:=cat_of r hT 4 s0 s1 s2 s3 kv l mn mx lz gr hl hk1 hr ih hfo
 refine Tri.free2 fun R HR=>?_
 refine ae Tryz.func9 Tryz.ntmps9 ?_
 repeat' (first|((with_reducible apply kx_box);rfl;(exact qcl);intro b1;(refine apk ?_))|((with_reducible apply kx_alloc (E:=40));exact ty_zero;(exact qcl);intro b2;(refine apk ?_))|((with_reducible apply kx_mmake 22);intro bm;(refine apk ?_))|((with_reducible apply kx_mins (kt:=22) (et:=59));kernel_rfl;exact (int_keyed Tryz.underlying22);rfl;rfl;rfl;exact hkn _ (by omega);(exact atk);(unfold maxLen;omega);(refine apk ?_))|((with_reducible apply kx_mgetS (kt:=22) (et:=59));kernel_rfl;exact (int_keyed Tryz.underlying22);exact ty_zero;rfl;rfl;exact hkn _ (by omega);(exact atk);exact hget;(refine apk ?_))|(refine acl Tryz.func27 ?_;refine acr (hcall) ?_;rintro v' H' ⟨u,hu1,hu2,rfl,rfl⟩;refine apl ?_)|((with_reducible apply kx_storeN);exact ty_size;rfl;rfl;rfl;(exact qsw);exact encI_one hu2;(exact qst);(refine apk ?_))|exact xf|refine aw0 ?_|(refine ap2 ?_ ?_<;>try intro h)|refine aw1 ?_|(refine abx ?_;intro bb)|(refine abz ?_;intro bz)|(refine ahv ?_;intro v' hv')|(refine aac ?_;intro ac cc)|refine aw2 ?_|(refine ap4 ?_ ?_<;>try intro h)|apply True.intro)
 ((with_reducible apply fp_ret);exact res_W rfl rfl atk ty_agg ty_size rfl)
 exact HR.out _ _ _ [OwnI u] atks ⟨u,hu1,hu2,rfl,rfl⟩
theorem ofRep_any (r:Hp) (hT:TabR r) (s0 s1 s2 s3:Nat) (kv:Value) (_l:List NoV) (mn mx:Int) (lz:Bool) (gr:Int) (h1:mn<1) (h2:¬ mx=0) (h3:¬ mx=1):Tri Tryz.prog r 9 [.agg [.int .i64 6,.int .u64 s0,.int .u64 s1,.int .u64 s2,.int .u64 s3,kv,.int .i64 mn,.int .i64 mx,.bool lz,.int .i64 gr].toArray] [] fun w H => ∃ u:InfV,u.key=openI/\(encQ u.q).all one?=true/\w = .agg [.bool u.known,.slice u.ea u.ex.length u.ec,.slice u.pa u.pre.length u.pc,.slice u.sa u.suf.length u.sc,.int .i64 u.q.kind,u.q.gv,u.q.sv].toArray/\H=[OwnI u]:=by
 have hkn:=nk_key
 have hget:=askM6
 have hcall:=repeat_of r hT 6 s0 s1 s2 s3 kv mn mx lz gr h1 h2 h3
 refine Tri.free2 fun R HR=>?_
 refine ae Tryz.func9 Tryz.ntmps9 ?_
 repeat' (first|((with_reducible apply kx_box);rfl;(exact qcl);intro b1;(refine apk ?_))|((with_reducible apply kx_alloc (E:=40));exact ty_zero;(exact qcl);intro b2;(refine apk ?_))|((with_reducible apply kx_mmake 22);intro bm;(refine apk ?_))|((with_reducible apply kx_mins (kt:=22) (et:=59));kernel_rfl;exact (int_keyed Tryz.underlying22);rfl;rfl;rfl;exact hkn _ (by omega);(exact atk);(unfold maxLen;omega);(refine apk ?_))|((with_reducible apply kx_mgetS (kt:=22) (et:=59));kernel_rfl;exact (int_keyed Tryz.underlying22);exact ty_zero;rfl;rfl;exact hkn _ (by omega);(exact atk);exact hget;(refine apk ?_))|(refine acl Tryz.func29 ?_;refine acr (hcall) ?_;rintro v' H' ⟨u,hu1,hu2,rfl,rfl⟩;refine apl ?_)|((with_reducible apply kx_storeN);exact ty_size;rfl;rfl;rfl;(exact qsw);exact encI_one hu2;(exact qst);(refine apk ?_))|exact xf|refine aw0 ?_|(refine ap2 ?_ ?_<;>try intro h)|refine aw1 ?_|(refine abx ?_;intro bb)|(refine abz ?_;intro bz)|(refine ahv ?_;intro v' hv')|(refine aac ?_;intro ac cc)|refine aw2 ?_|(refine ap4 ?_ ?_<;>try intro h)|apply True.intro)
 ((with_reducible apply fp_ret);exact res_W rfl rfl atk ty_agg ty_size rfl)
 exact HR.out _ _ _ [OwnI u] atks ⟨u,hu1,hu2,rfl,rfl⟩
inductive OkN:Nd->Prop
 | set (s:List Nat) (l:List Nd) (mn mx:Int) (lz:Bool) (g:Int):OkN (.mk 3 s l mn mx lz g)
 | cat (s:List Nat) (l:List Nd) (mn mx:Int) (lz:Bool) (g:Int) (h : ∀ x∈l,OkN x) (hf:FoldOk (exactI [[]]) (l.map ofI)):OkN (.mk 4 s l mn mx lz g)
 | rep (s:List Nat) (l:List Nd) (mn mx:Int) (lz:Bool) (g:Int) (h1:mn<1) (h2:¬ mx=0) (h3:¬ mx=1):OkN (.mk 6 s l mn mx lz g)
theorem nkey_mk (k:Int) (s0 s1 s2 s3:Nat) (kv:Value) (l:List NoV) (mn mx:Int) (lz:Bool) (g:Int):(NoV.mk k s0 s1 s2 s3 kv l mn mx lz g).key = .mk k [s0,s1,s2,s3] (l.map NoV.key) mn mx lz g:=by simp [NoV.key,nkeys_map]
theorem ofI_cat (s:List Nat) (l:List Nd) (mn mx:Int) (lz:Bool) (g:Int):ofI (.mk 4 s l mn mx lz g)=joinI (exactI [[]]) behindI (ofIs l):=by
 unfold ofI
 rw [if_neg (by omega),if_neg (by omega),if_pos rfl]
theorem of_ok : ∀ n:NoV,OkN n.key->OfT n
 | .mk k s0 s1 s2 s3 kv l mn mx lz g=>fun h r hT hn=>by
  have ih : ∀ x∈l,OkN x.key->OfT x:=fun x _h=>of_ok x
  rw [nkey_mk] at h ⊢
  have hn':=hn
  simp only [NoR,noL_iff] at hn'
  obtain ⟨hl,hr,_,_,_,_,_,hk1⟩:=hn'
  cases h with
  | set =>
   have e:ofI (.mk 3 [s0,s1,s2,s3] (l.map NoV.key) mn mx lz g)=setI [s0,s1,s2,s3]:=by
    unfold ofI
    rw [if_neg (by omega),if_pos rfl]
   rw [e]
   exact ofSet_any r hT s0 s1 s2 s3 kv l mn mx lz g hn
  | cat _ _ _ _ _ _ hx hf =>
   have e:ofI (.mk 4 [s0,s1,s2,s3] (l.map NoV.key) mn mx lz g)=joinI (exactI [[]]) behindI (l.map fun x=>ofI x.key):=by
    rw [ofI_cat,ofIs_map,List.map_map];rfl
   rw [List.map_map] at hf
   rw [e]
   exact ofCat_any r hT s0 s1 s2 s3 kv l mn mx lz g hl hk1 hr (fun x hxm=>ih x hxm (hx _ (List.mem_map_of_mem hxm))) hf
  | rep _ _ _ _ _ _ h1 h2 h3 =>
   have e:ofI (.mk 6 [s0,s1,s2,s3] (l.map NoV.key) mn mx lz g)=openI:=by
    unfold ofI repeatI
    rw [if_neg (by omega),if_neg (by omega),if_neg (by omega),if_neg (by omega),if_pos rfl,if_neg h2,if_neg (by omega),if_neg (by omega),if_pos h1]
   rw [e]
   exact ofRep_any r hT s0 s1 s2 s3 kv l mn mx lz g h1 h2 h3
termination_by n=>SizeOf.sizeOf n
decreasing_by
 have:=List.sizeOf_lt_of_mem _h
 simp only [NoV.mk.sizeOf_spec]
 omega
theorem size_conj (G:List Tx):sizeQ (conj G)<=1+sizeT G:=by
 have:=size_mk 3 1 G []
 simp only [sizeQs] at this
 exact this
theorem fit_ex {s:Tx} (h:s.length<=1000):FitI ⟨true,[s],[],[],conj []⟩:=⟨by simp [sizeT];omega,by simp [sizeT],by simp [sizeT],by have:=size_conj [];simp only [sizeT] at this;dsimp only;omega,right_all⟩
theorem fit_op {a b:Tx} {G:List Tx} (ha:a.length<=1000) (hb:b.length<=1000) (hG:sizeT G<=100000) (h3 : ∀ g∈G,g.length=3):FitI ⟨false,[],[a],[b],conj G⟩:=⟨by simp [sizeT],by simp [sizeT];omega,by simp [sizeT];omega,by have:=size_conj G;dsimp only;omega,right_conj h3⟩
theorem fit_lit {s:Tx} (h:s.length<=1000):FitI (litI s):=by
 have h1:=frontT_len 2 s
 have h2:=backT_len 2 s
 have h3:=size_parts3 s
 unfold litI
 split
 · exact fit_ex h
 · exact fit_op (by omega) (by omega) (by omega) partsT_len3
theorem sm_lit (s:Tx):SmI (litI s):=by
 unfold litI
 split<;>exact ⟨by simp,by simp,by simp⟩
theorem fitB_lit {s:Tx} (_hs:s≠[]) (c:UInt8) (h:s.length<=900):FitB (litI s) (exactI [[c]]):=by
 have hc:exactI [[c]]=litI [c]:=by rw [exactI_one];rfl
 have h1:=frontT_len 2 s
 have h2:=backT_len 2 s
 have h3:=size_parts3 s
 have hout:FitI (outI (litI s) (exactI [[c]]))/\sizeQ (outI (litI s) (exactI [[c]])).m<=5000000:=by
  rw [exactI_one]
  by_cases h4:s.length<=40
  · have e:litI s=⟨true,[s],[],[],conj []⟩:=by unfold litI;rw [if_pos h4];rfl
    rw [e]
    have e2:outI ⟨true,[s],[],[],conj []⟩ ⟨true,[[c]],[],[],conj []⟩=⟨true,[s++[c]],[],[],conj []⟩:=by
     show InfK.mk true (crossT [s] [[c]]) [] [] (andQ [conj [],conj [],conj []])=_
     rw [cross_one,and3];rfl
    rw [e2]
    exact ⟨fit_ex (by simp;omega),by have:=size_conj [];simp only [sizeT] at this;dsimp only;omega⟩
  · have e:litI s=⟨false,[],[frontT 2 s],[backT 2 s],conj (partsT s)⟩:=by unfold litI;rw [if_neg h4]
    rw [e]
    have e2:outI ⟨false,[],[frontT 2 s],[backT 2 s],conj (partsT s)⟩ ⟨true,[[c]],[],[],conj []⟩=⟨false,[],[frontT 2 s],[backT 2 s++[c]],conj (partsT s)⟩:=by
     show InfK.mk false [] (rowT [frontT 2 s]) (crossT [backT 2 s] [[c]]) (andQ [conj (partsT s),conj [],conj []])=_
     rw [cross_one,rowT_one,and3,List.append_nil,List.append_nil]
    rw [e2]
    exact ⟨fit_op (by omega) (by simp;omega) (by omega) partsT_len3,by have:=size_conj (partsT s);dsimp only;omega⟩
 have hbe:sizeT (crossT (litI s).suf (exactI [[c]]).pre)<=100000:=by
  have:(exactI [[c]]).pre=[]:=rfl
  rw [this]
  have e:pairsT (litI s).suf []=[]:=by
   unfold pairsT
   simp
  unfold crossT
  rw [e]
  simp [sizeT,rowT,sortBy]
 exact ⟨fit_lit (by omega),hc ▸ fit_lit (by simp),sm_lit s,hc ▸ sm_lit [c],hout.1,hout.2,hbe,by
  have e1:sizeQ (litI s).m<=5000000:=by
   unfold litI
   split
   · simp [allQ,sizeQ,sizeT,sizeQs]
   · have:=size_conj (partsT s);dsimp only;omega
  have e2:sizeQ (exactI [[c]]).m<=5:=by simp [exactI,allQ,sizeQ,sizeT,sizeQs]
  omega⟩
theorem fold_lit (s:Tx) (h:s.length<=900):FoldOk (exactI [[]]) ((s.map oneN).map ofI):=by
 have e:(s.map oneN).map ofI=s.map fun b=>exactI [[b]]:=by rw [List.map_map];exact List.map_congr_left fun b _=>of_one b
 rw [e]
 intro j h1 h2
 rw [List.length_map] at h2
 have e1:(s.map fun b=>exactI [[b]]).getD j default=exactI [[s.getD j 0]]:=by
  rw [List.getD_eq_getElem?_getD,List.getElem?_map,List.getElem?_eq_getElem h2,List.getD_eq_getElem?_getD,List.getElem?_eq_getElem h2];rfl
 have e2:joinI (exactI [[]]) behindI ((s.map fun b=>exactI [[b]]).take j)=litI (s.take j):=by
  rw [← List.map_take]
  have hne:s.take j≠[]:=fun e=>by have:=congrArg List.length e;rw [List.length_take,List.length_nil] at this;omega
  obtain ⟨b,t,ht⟩:=List.exists_cons_of_ne_nil hne
  rw [ht]
  show (t.map fun b=>exactI [[b]]).foldl behindI (exactI [[b]])=_
  rw [exactI_one,show (⟨true,[[b]],[],[],conj []⟩:InfK)=litI [b] from rfl,lit_fold t [b] (by simp)];rfl
 rw [e1,e2]
 refine fitB_lit (fun e=>?_) _ (by rw [List.length_take];omega)
 have:=congrArg List.length e
 rw [List.length_take,List.length_nil] at this
 omega
theorem ok_one (b:UInt8):OkN (oneN b):= .set _ _ _ _ _ _
theorem ok_text (s:Tx) (h:s.length<=900):OkN (textN s):= .cat _ _ _ _ _ _ (fun x hx=>by
 obtain ⟨b,_,rfl⟩:=List.mem_map.1 hx
 exact ok_one b) (fold_lit s h)
end Go.Proofs.YteknekiclhnkiaaGreatDoor
