/- slices.Grow, Concat at texts: their contracts. -/
import Derived.Test.YteknekiclhnkiaaGreatDoorPi
set_option maxHeartbeats 8000000
set_option maxRecDepth 10000
namespace Go.Proofs.YteknekiclhnkiaaGreatDoor
open Go.RowKit Sx
def OrT:Prop := ∀ (r:Hp),TabR r -> ∀ (i b:InfV),(encQ i.q).all one?=true->(encQ b.q).all one?=true->FitO i.key b.key->Tri Tryz.prog r 45 [.agg [.bool i.known,.slice i.ea i.ex.length i.ec,.slice i.pa i.pre.length i.pc,.slice i.sa i.suf.length i.sc,.int .i64 i.q.kind,i.q.gv,i.q.sv].toArray,.agg [.bool b.known,.slice b.ea b.ex.length b.ec,.slice b.pa b.pre.length b.pc,.slice b.sa b.suf.length b.sc,.int .i64 b.q.kind,b.q.gv,b.q.sv].toArray] [OwnI i,OwnI b] fun w H => ∃ u:InfV,u.key=orI i.key b.key/\(encQ u.q).all one?=true/\w = .agg [.bool u.known,.slice u.ea u.ex.length u.ec,.slice u.pa u.pre.length u.pc,.slice u.sa u.suf.length u.sc,.int .i64 u.q.kind,u.q.gv,u.q.sv].toArray/\H=[OwnI u]
def FoldO (o:InfK) (l:List InfK):Prop := ∀ j,1<=j->j<l.length->FitO (joinI o orI (l.take j)) (l.getD j default)
theorem joinI_snocO (o:InfK) : ∀ (l:List InfK) (x:InfK),l≠[]->joinI o orI (l++[x])=orI (joinI o orI l) x
 | [],_,h=>absurd rfl h
 | y::l,x,_=>by simp [joinI,List.foldl_append]
theorem joinedO_of (hor:OrT) (r:Hp) (hT:TabR r) (k:Int) (s0 s1 s2 s3:Nat) (kv:Value) (l:List NoV) (mn mx:Int) (lz:Bool) (gr:Int) (hl:Els r 10 encN kv l) (_hk1:one? kv=true) (hr : ∀ x∈l,NoR r x) (ih : ∀ x∈l,OfT x) (o:InfV) (oo:(encQ o.q).all one?=true) (hfo:FoldO o.key (l.map fun x=>ofI x.key)):Tri Tryz.prog r 43 [.agg [.int .i64 k,.int .u64 s0,.int .u64 s1,.int .u64 s2,.int .u64 s3,kv,.int .i64 mn,.int .i64 mx,.bool lz,.int .i64 gr].toArray,.agg [.bool o.known,.slice o.ea o.ex.length o.ec,.slice o.pa o.pre.length o.pc,.slice o.sa o.suf.length o.sc,.int .i64 o.q.kind,o.q.gv,o.q.sv].toArray,.func (.func 45) #[] #[]] [OwnI o] fun w H => ∃ u:InfV,u.key=joinI o.key orI (l.map fun x=>ofI x.key)/\(encQ u.q).all one?=true/\w = .agg [.bool u.known,.slice u.ea u.ex.length u.ec,.slice u.pa u.pre.length u.pc,.slice u.sa u.suf.length u.sc,.int .i64 u.q.kind,u.q.gv,u.q.sv].toArray/\H=[OwnI u]:=by
 have hlm:=maxI hl.2.2.1
 refine Tri.free2 fun R HR=>?_
 refine ae Tryz.func43 Tryz.ntmps43 ?_
 repeat' (first|((with_reducible apply kx_box (v:= .agg [.int .i64 k,.int .u64 s0,.int .u64 s1,.int .u64 s2,.int .u64 s3,kv,.int .i64 mn,.int .i64 mx,.bool lz,.int .i64 gr].toArray));rfl;(exact qcl);intro b3;(refine apk ?_))|((with_reducible apply kx_box (v:= .agg [.bool o.known,.slice o.ea o.ex.length o.ec,.slice o.pa o.pre.length o.pc,.slice o.sa o.suf.length o.sc,.int .i64 o.q.kind,o.q.gv,o.q.sv].toArray));rfl;(exact qcl);intro b4;(refine apk ?_))|((with_reducible apply kx_alloc (E:=40));exact ty_zero;(exact qcl);intro b6;(refine apk ?_))|exact xf|refine aw0 ?_|(refine ap2 ?_ ?_<;>try intro h)|refine aw1 ?_|(refine abx ?_;intro bb)|(refine abz ?_;intro bz)|(refine ahv ?_;intro v' hv')|(refine aac ?_;intro ac cc)|refine aw2 ?_|(refine ap4 ?_ ?_<;>try intro h)|apply True.intro)
 refine sw_loop (fun gm t H' => ∃ (j:Nat) (cur:InfV),gm=l.length+1 - j/\(j<=l.length)/\(cur.key=joinI o.key orI ((l.map fun x=>ofI x.key).take j))/\((encQ cur.q).all one?=true)/\(∃ G,Takes [pt b4 (.cells [.bool cur.known,.slice cur.ea cur.ex.length cur.ec,.slice cur.pa cur.pre.length cur.pc,.slice cur.sa cur.suf.length cur.sc,.int .i64 cur.q.kind,cur.q.gv,cur.q.sv].toArray 40 (0,0)),pt b6 (.cells [.bool false,.slice none 0 0,.slice none 0 0,.slice none 0 0,.int .i64 0,.slice none 0 0,.slice none 0 0].toArray 40 (0,0)),OwnI cur] H' G)/\Sls t 31 [(2,.func (.func 45) #[] #[]),(4,.pointer (some ⟨b4,0,none⟩)),(6,.pointer (some ⟨b6,0,none⟩)),(13,kv),(14,.int .i64 l.length),(15,.int .i64 j)]) _ ⟨0,o,rfl,Nat.zero_le _,rfl,oo,⟨_,atks⟩,asls⟩ ?_
 rintro gm t H' ⟨j,cur,rfl,hj,hck,hco,⟨G,hp⟩,hs'⟩
 revert t;refine sls_all ?_;iterate 25 intro uu'
 refine sw_takeG hp ?_;clear hp
 by_cases hlt:j<l.length
 · obtain ⟨x,hx⟩ : ∃ x,l.getD j default=x:=⟨_,rfl⟩
   have hxm:x∈l:=hx ▸ getD_memU hlt
   have hxr:=hr x hxm
   have hof:=ih x hxm r hT hxr
   have hml:(l.map fun x=>ofI x.key).getD j default=ofI x.key:=by
    rw [List.getD_eq_getElem?_getD,List.getElem?_map,List.getElem?_eq_getElem hlt,← hx,List.getD_eq_getElem?_getD,List.getElem?_eq_getElem hlt];rfl
   have htk:(l.map fun x=>ofI x.key).take (j+1)=(l.map fun x=>ofI x.key).take j++[ofI x.key]:=by
    rw [take_getD (d:=default) (by rw [List.length_map];exact hlt),hml]
   have hfj:=hfo j
   rw [hml,← hck,List.length_map] at hfj
   obtain ⟨xk,x0,x1,x2,x3,xv,xl,xmn,xmx,xlz,xg⟩:=x
   have hse:encN (.mk xk x0 x1 x2 x3 xv xl xmn xmx xlz xg)=[.int .i64 xk,.int .u64 x0,.int .u64 x1,.int .u64 x2,.int .u64 x3,xv,.int .i64 xmn,.int .i64 xmx,.bool xlz,.int .i64 xg]:=rfl
   have hx1:one? xv=true:=by simp only [NoR] at hxr;exact hxr.2.2.2.2.2.2.2
   have hN:([.int .i64 xk,.int .u64 x0,.int .u64 x1,.int .u64 x2,.int .u64 x3,xv,.int .i64 xmn,.int .i64 xmx,.bool xlz,.int .i64 xg]:List Value).all one?=true:=by
    simp only [List.all_cons,List.all_nil,hx1,Bool.and_true];rfl
   rw [hse] at hof
   obtain ⟨U,hU⟩ : ∃ U,ofI (NoV.key (.mk xk x0 x1 x2 x3 xv xl xmn xmx xlz xg))=U:=⟨_,rfl⟩
   rw [hU] at hof htk hfj
   clear hxr hml hxm
   by_cases h0:j=0
   · have hnx:joinI o.key orI ((l.map fun x=>ofI x.key).take (j+1))=U:=by rw [htk,h0];rfl
     repeat' (first|(rw [hx])|(rw [hse])|((with_reducible apply kx_alloc (E:=28));exact ty_zero;(exact qcl);intro b8;(refine apk ?_))|((with_reducible apply kx_alloc (E:=40));exact ty_zero;(exact qcl);intro b9;(refine apk ?_))|(refine acl Tryz.func9 ?_;refine acr (hof) ?_;rintro v' H' ⟨u,hu1,hu2,rfl,rfl⟩;refine apl ?_)|((with_reducible apply kx_storeN);exact ty_size;rfl;rfl;rfl;(exact qsw);exact hN;(exact qst);(refine apk ?_))|((with_reducible apply kx_storeN);exact ty_size;rfl;rfl;rfl;(exact qsw);exact encI_one hu2;(exact qst);(refine apk ?_))|exact xf|refine aw0 ?_|(refine ap2 ?_ ?_<;>try intro h)|refine aw1 ?_|(refine abx ?_;intro bb)|(refine abz ?_;intro bz)|(refine ahv ?_;intro v' hv')|(refine aac ?_;intro ac cc)|refine aw2 ?_|(refine ap4 ?_ ?_<;>try intro h)|apply True.intro)
     exact ⟨_,by omega,j+1,u,rfl,by omega,by rw [hnx,hu1],hu2,⟨_,atks⟩,asls⟩
   · have hnx:joinI o.key orI ((l.map fun x=>ofI x.key).take (j+1))=orI cur.key U:=by
      rw [htk,joinI_snocO _ _ _ (fun e=>by have:=congrArg List.length e;rw [List.length_take,List.length_map,List.length_nil] at this;omega),← hck]
     have hfj2:=hfj (by omega) hlt
     have hbe:=fun (u:InfV) (h1:u.key=U) (h2:(encQ u.q).all one?=true)=>hor r hT cur u hco h2 (by rw [h1];exact hfj2)
     repeat' (first|(rw [hx])|(rw [hse])|((with_reducible apply kx_alloc (E:=28));exact ty_zero;(exact qcl);intro b8;(refine apk ?_))|((with_reducible apply kx_alloc (E:=40));exact ty_zero;(exact qcl);intro b9;(refine apk ?_))|(refine acl Tryz.func9 ?_;refine acr (hof) ?_;rintro v' H' ⟨u,hu1,hu2,rfl,rfl⟩;refine apl ?_)|((with_reducible apply kx_storeN);exact ty_size;rfl;rfl;rfl;(exact qsw);exact hN;(exact qst);(refine apk ?_))|((with_reducible apply kx_storeN);exact ty_size;rfl;rfl;rfl;(exact qsw);exact encI_one hu2;(exact qst);(refine apk ?_))|(refine acl Tryz.func45 ?_;refine acr (hbe u hu1 hu2) ?_;rintro v' H' ⟨v,hv1,hv2,rfl,rfl⟩;refine apl ?_)|((with_reducible apply kx_storeN);exact ty_size;rfl;rfl;rfl;(exact qsw);exact encI_one hv2;(exact qst);(refine apk ?_))|exact xf|refine aw0 ?_|(refine ap2 ?_ ?_<;>try intro h)|refine aw1 ?_|(refine abx ?_;intro bb)|(refine abz ?_;intro bz)|(refine ahv ?_;intro v' hv')|(refine aac ?_;intro ac cc)|refine aw2 ?_|(refine ap4 ?_ ?_<;>try intro h)|apply True.intro)
     exact ⟨_,by omega,j+1,v,rfl,by omega,by rw [hnx,hv1,hu1],hv2,⟨_,atks⟩,asls⟩
 · obtain rfl:j=l.length:=by omega
   rw [List.take_of_length_le (by rw [List.length_map];omega)] at hck
   repeat' (first|((with_reducible apply kx_storeN);exact ty_size;rfl;rfl;rfl;(exact qsw);exact encI_one hco;(exact qst);(refine apk ?_))|exact xf|refine aw0 ?_|(refine ap2 ?_ ?_<;>try intro h)|refine aw1 ?_|(refine abx ?_;intro bb)|(refine abz ?_;intro bz)|(refine ahv ?_;intro v' hv')|(refine aac ?_;intro ac cc)|refine aw2 ?_|(refine ap4 ?_ ?_<;>try intro h)|apply True.intro)
   ((with_reducible apply fp_ret);exact res_W rfl rfl atk ty_agg ty_size rfl)
   exact HR.out _ _ _ [OwnI cur] atks ⟨cur,hck,hco,rfl,rfl⟩
end Go.Proofs.YteknekiclhnkiaaGreatDoor
namespace Go.Proofs.YteknekiclhnkiaaGreatDoor
open Go.RowKit
namespace Sx
section
variable {P : Program} {l : Option Nat} {r : Hp} {Q : Exit → St} {K : St} {t : List Value} {H : List Ch} {d : Option Tmp} {ty : TypeId} {pos : String} {af : Array Edge} {gd : Option (Nat × Bool)}
theorem run_append_intT {w:World} (T u ty e:TypeId) (i:TypeInfo) (z:Value) (ht:P.underlying T=some (.slice e)) (hu:P.underlying u=some (.int .i64)) (hi:P.info? e=some i) (hz:i.zero=some z) (hs:0<i.size)
 (n:Nat) (h0:0<n) (h63:(n:Int)<=9223372036854775807) (h48:n*i.bytes<=140737488355328) :
 (Builtin.append_ #[T,u] ty #[.slice none 0 0,.int .i64 n]).run P w =
  .ok (.slice (some ⟨w.heap.size,0,none⟩) n (grownCap w n 0 e)) (w.drew.alloc (.cells (Builtin.zeroCells z.cells n++Builtin.zeroCells z.cells (grownCap w n 0 e - n)) e)):=by
 have hn:n≠0:=by omega
 have h63':¬ (9223372036854775807<(n:Int)):=by omega
 have h48':¬ (281474976710656<Builtin.nextslicecap n 0*i.bytes):=by rw [nextslicecap_zero h0];omega
 have h48i:¬ (281474976710656<(n:Int)*(i.bytes:Int)):=by
  have:(n:Int)*(i.bytes:Int)=((n*i.bytes:Nat):Int):=by simp
  omega
 have hns:n*i.size≠0:=Nat.mul_ne_zero hn (by omega)
 have hw:IntKind.i64.wrap (n:Int)=n:=by simp [IntKind.wrap,IntKind.bits,IntKind.signed];omega
 have ha : ∀ w,(asIntOf (Value.int .i64 (n:Int))).run P w = .ok (.i64,(n:Int)) w:=fun w=>by simp [asIntOf,Sem.run_pure]
 have k1:¬ (n:Int)<0:=by omega
 have k2:¬ (n:Int)<=0:=by omega
 have k3:¬ 9223372036854775807<max (n:Int) 0:=by omega
 have k4:¬ (n=0\/i.size=0):=by omega
 have k5:¬ i.size=0:=by omega
 simp [Builtin.append_,ha,k1,Result.andThen,run_underlying ht,run_underlying hu,sizeOf,typeInfo,zeroValue,hi,hz,asInt,hw,hn,h63',h48',h48i,Question.forced,run_firstCells_none,newRow,grownCap]
 rw [if_neg hns]
 rfl
theorem drew_toT {ds:List Deferred} {w:World} {g:Hp} (ok:Ok l r ds w g):To l r ds w g ds w.drew g :=
 To.step ok rfl rfl rfl (Nat.le_refl _) (fun _ _ _=>rfl) (fun b u hb=>ok.emb b u hb) (fun _ hb=> .inl hb)
theorem kx_appIT {T u E:TypeId} {z:Value} {sz by_ n:Nat} {x y:Operand} (hT:elB P T=some E) (hi:infB P E=some (some z,sz,by_)) (hu:P.underlying u=some (.int .i64)) (hzs:z.cells.size=sz) (hsz:decide (0<sz)=true)
 (hx:evO t x=some (.slice none 0 0)) (hy:evO t y=some (.int .i64 (n:Nat))) (h0:0<n) (hn:n<=maxLen) (hb:n*by_<=140737488355328)
 (hk : ∀ b c xs,n<=c->K (putL t d (.slice (some ⟨b,0,none⟩) n c)) (RowC E sz (.slice (some ⟨b,0,none⟩) n c) n xs::H)):SWo P l r ⟨d,.call { callee:= .builtin .append,args := #[x,y],argTypes := #[T,u] },ty,pos,af,gd⟩ K t H :=
 swo_run (fun c hc=>by cases hc) fun w g ds ok al=>by
  obtain ⟨i,hi1,hi2,hi3,hi4⟩:=infB_s hi
  have hrun:=run_append_intT (P:=P) (w:=w) T u ty E i z (elB_s hT) hu hi1 hi2 (by rw [hi3];exact of_decide_eq_true hsz) n h0 (by unfold maxLen at hn;omega) (by rw [hi4];exact hb)
  have to1:=drew_toT ok
  obtain ⟨dd,to2⟩:=alloc_to to1.ok (.cells (Builtin.zeroCells z.cells n++Builtin.zeroCells z.cells (grownCap w n 0 E - n)) E)
  have e1:evalL t x = .slice none 0 0:=ev_of hx
  have e2:evalL t y = .int .i64 (n:Nat):=ev_of hy
  have hge:=grownCap_ge w n 0 E
  have hzc : ∀ m,(Builtin.zeroCells z.cells m).size=m*sz:=fun m=>by simp [Builtin.zeroCells,hzs]
  refine ⟨_,_,_,_,?_,hk w.heap.size (grownCap w n 0 E) ((Builtin.zeroCells z.cells n++Builtin.zeroCells z.cells (grownCap w n 0 E - n)).toList.take (n*sz)) hge,⟨_,_,dd,rfl,?_,al⟩,to1.trans to2⟩
  · simp [execOp,resolve,Result.andThen,invoke,BigFrame.builtin_append,e1,e2,hrun]
  · refine RowC.of_pt hge (grownCap_le_maxLen w n 0 E hn) ?_ _ rfl
    rw [Array.size_append,hzc,hzc,← Nat.add_mul]
    congr 1
    omega
end
end Sx
open Sx
theorem rowc_noneT {E:TypeId} {sz n c:Nat} {a:Option Addr} {xs:List Value} {h:Hp} (e:RowC E sz (.slice a n c) n xs h):RowC E sz (.slice a 0 c) 0 [] h:=by
 refine ⟨by simp,?_⟩
 rcases e.2 with ⟨h1,h2,h3⟩ | ⟨g,cap,cur,h1,h2,h3,h4,h5,h6⟩
 · injection h1 with e1 e2 e3
   subst e1;subst e3
   exact .inl ⟨rfl,rfl,h3⟩
 · injection h1 with e1 e2 e3
   subst e1;subst e3
   exact .inr ⟨g,c,cur,rfl,h2,Nat.zero_le _,h4,h5,by simp⟩
theorem growT0 (r:Hp):Tri Tryz.prog r 120 [.slice none 0 0,.int .i64 (0:Nat)] [] fun w H=>w = .slice none 0 0/\H=[]:=by
 refine Tri.free2 fun R HR=>?_
 refine ae Tryz.func120 Tryz.ntmps120 ?_
 repeat' (first|exact xf|refine aw0 ?_|(refine ap2 ?_ ?_<;>try intro h)|refine aw1 ?_|(refine abx ?_;intro bb)|(refine abz ?_;intro bz)|(refine ahv ?_;intro v' hv')|(refine aac ?_;intro ac cc)|refine aw2 ?_|(refine ap4 ?_ ?_<;>try intro h)|apply True.intro)
 ((with_reducible apply fp_ret);exact res_1 rfl rfl)
 exact HR.out _ _ _ [] atks ⟨rfl,rfl⟩
theorem growT1 (r:Hp) (n:Nat) (h0:¬ n=0) (hn:n<=1000000000):Tri Tryz.prog r 120 [.slice none 0 0,.int .i64 n] [] fun w H => ∃ b c xs,w = .slice (some ⟨b,0,none⟩) 0 c/\H=[RowC 9 1 (.slice (some ⟨b,0,none⟩) n c) n xs]:=by
 refine Tri.free2 fun R HR=>?_
 refine ae Tryz.func120 Tryz.ntmps120 ?_
 repeat' (first|((with_reducible apply swo_pur);(with_reducible apply pu_slX (m:=0));rfl;rfl;rfl;omega;(refine apk ?_))|((with_reducible apply kx_appIT (n:=n));exact ty_el;exact ty_inf;exact Tryz.underlying3;rfl;rfl;rfl;rfl;omega;(unfold maxLen;omega);omega;intro b c xs hc;(refine apk ?_))|exact xf|refine aw0 ?_|(refine ap2 ?_ ?_<;>try intro h)|refine aw1 ?_|(refine abx ?_;intro bb)|(refine abz ?_;intro bz)|(refine ahv ?_;intro v' hv')|(refine aac ?_;intro ac cc)|refine aw2 ?_|(refine ap4 ?_ ?_<;>try intro h)|apply True.intro)
 ((with_reducible apply fp_ret);exact res_1 rfl rfl)
 exact HR.out _ _ _ [_] atks ⟨_,_,_,rfl,rfl⟩
theorem growT_any (r:Hp) (n:Nat) (hn:n<=1000000000):Tri Tryz.prog r 120 [.slice none 0 0,.int .i64 n] [] fun w H => ∃ a c,w = .slice a 0 c/\H=[TxC a c []]:=by
 by_cases h0:n=0
 · subst h0
   refine tri_cv (growT0 r) fun v H ⟨hv,hH⟩=>⟨_,⟨none,0,hv,rfl⟩,fun g e=>?_⟩
   subst hv;subst hH
   exact all_emp (RowC.nil _ _) e
 · refine tri_cv (growT1 r n h0 hn) fun v H ⟨b,c,xs,hv,hH⟩=>⟨_,⟨_,c,hv,rfl⟩,fun g e=>?_⟩
   subst hv;subst hH
   exact all_imp (fun h e=>rowc_noneT e) e
structure TsV where
 val:Value
 data:List Tx
instance:Inhabited TsV:=⟨⟨.slice none 0 0,[]⟩⟩
def encTs (x:TsV):List Value:=[x.val]
def flatTs (l:List TsV):List Tx:=l.flatMap (·.data)
theorem flatTs_take {l:List TsV} {k:Nat} (h:k<l.length):flatTs (l.take (k+1))=flatTs (l.take k)++(l.getD k default).data:=by
 unfold flatTs
 rw [List.take_succ_eq_append_getElem h,List.flatMap_append,List.getD_eq_getElem?_getD,List.getElem?_eq_getElem h]
 simp
theorem flatTs_le (l:List TsV) (k:Nat):(flatTs (l.take k)).length<=(flatTs l).length:=by
 have e:flatTs l=flatTs (l.take k)++flatTs (l.drop k):=by unfold flatTs;rw [← List.flatMap_append,List.take_append_drop]
 rw [e,List.length_append];omega
theorem txC_app {a:Option Addr} {c:Nat} {l p:List Tx}:TxC a c (l++p)=RowC 9 1 (.slice a (l.length+p.length) c) (l.length+p.length) (l.flatMap encTx++p.flatMap encTx):=by
 unfold TxC
 rw [List.length_append,List.flatMap_append]
theorem concatT_any (r:Hp) (v:Value) (L:List TsV) (hv:Els r 1 encTs v L) (hr : ∀ z∈L,Els r 1 encTx z.val z.data) (hl:(flatTs L).length<=1000000000) (hbn:L.length<=1000000000):Tri Tryz.prog r 78 [v] [] fun w H => ∃ a c,w = .slice a (flatTs L).length c/\H=[TxC a c (flatTs L)]:=by
 refine Tri.free2 fun R HR=>?_
 refine ae Tryz.func78 Tryz.ntmps78 ?_
 repeat' (first|exact xf|refine aw0 ?_|(refine ap2 ?_ ?_<;>try intro h)|refine aw1 ?_|(refine abx ?_;intro bb)|(refine abz ?_;intro bz)|(refine ahv ?_;intro v' hv')|(refine aac ?_;intro ac cc)|refine aw2 ?_|(refine ap4 ?_ ?_<;>try intro h)|apply True.intro)
 refine sw_loop (fun gm t H' => ∃ k:Nat,gm=L.length+1 - k/\(k<=L.length)/\(∃ G,Takes [] H' G)/\Sls t 36 [(0,v),(3,.int .i64 ((flatTs (L.take k)).length:Nat)),(9,v),(10,.int .i64 L.length),(11,.int .i64 k)]) _ ⟨0,rfl,Nat.zero_le _,⟨_,by (exact atks)⟩,asls⟩ ?_
 rintro gm t H' ⟨k,rfl,hk,⟨G,hp⟩,hs'⟩
 revert t;refine sls_all ?_;iterate 31 intro uu'
 refine sw_takeG hp ?_;clear hp
 by_cases hlt:k<L.length
 · have hb:=hr _ (getD_memU hlt)
   obtain ⟨z,hz⟩ : ∃ z,L.getD k default=z:=⟨_,rfl⟩
   have hft:=flatTs_take hlt
   have hle:=flatTs_le L (k+1)
   rw [hz] at hb hft
   have hlen:=congrArg List.length hft
   rw [List.length_append] at hlen
   repeat' (first|(rw [hz])|(rw [show encTs z=[z.val] from rfl])|exact xf|refine aw0 ?_|(refine ap2 ?_ ?_<;>try intro h)|refine aw1 ?_|(refine abx ?_;intro bb)|(refine abz ?_;intro bz)|(refine ahv ?_;intro v' hv')|(refine aac ?_;intro ac cc)|refine aw2 ?_|(refine ap4 ?_ ?_<;>try intro h)|apply True.intro)
   exact ⟨_,by omega,k+1,rfl,by omega,⟨_,atks⟩,asls⟩
 · obtain rfl:k=L.length:=by omega
   have htl:L.take L.length=L:=List.take_length
   rw [htl]
   repeat' (first|(refine acl Tryz.func120 ?_;refine acr (growT_any _ (flatTs L).length hl) ?_;rintro v' H' ⟨a,c,rfl,rfl⟩;refine apl ?_)|exact xf|refine aw0 ?_|(refine ap2 ?_ ?_<;>try intro h)|refine aw1 ?_|(refine abx ?_;intro bb)|(refine abz ?_;intro bz)|(refine ahv ?_;intro v' hv')|(refine aac ?_;intro ac cc)|refine aw2 ?_|(refine ap4 ?_ ?_<;>try intro h)|apply True.intro)
   refine sw_loop (fun gm t H' => ∃ (k:Nat) (a:Option Addr) (c:Nat),gm=L.length+1 - k/\(k<=L.length)/\(∃ G,Takes [TxC a c (flatTs (L.take k))] H' G)/\Sls t 36 [(6,.slice a (flatTs (L.take k)).length c),(25,v),(26,.int .i64 L.length),(27,.int .i64 k)]) _ ⟨0,a,c,rfl,Nat.zero_le _,⟨_,by (exact atks)⟩,asls⟩ ?_
   rintro gm t H' ⟨k,a,c,rfl,hk,⟨G,hp⟩,hs'⟩
   revert t;refine sls_all ?_;iterate 32 intro uu'
   refine sw_takeG hp ?_;clear hp
   by_cases hlt:k<L.length
   · have hb:=hr _ (getD_memU hlt)
     obtain ⟨z,hz⟩ : ∃ z,L.getD k default=z:=⟨_,rfl⟩
     have hft:=flatTs_take hlt
     have hle:=flatTs_le L (k+1)
     rw [hz] at hb hft
     have hlen:=congrArg List.length hft
     rw [List.length_append] at hlen
     repeat' (first|(rw [hz])|(rw [show encTs z=[z.val] from rfl])|((with_reducible apply kx_appS (news:=z.data.flatMap encTx));exact ty_el;exact ty_inf;rfl;rfl;rfl;rfl;exact hb.2;(exact atk);exact (encTx_one _);(unfold maxLen;omega);(omega);intro a2 c2;(refine apk ?_))|exact xf|refine aw0 ?_|(refine ap2 ?_ ?_<;>try intro h)|refine aw1 ?_|(refine abx ?_;intro bb)|(refine abz ?_;intro bz)|(refine ahv ?_;intro v' hv')|(refine aac ?_;intro ac cc)|refine aw2 ?_|(refine ap4 ?_ ?_<;>try intro h)|apply True.intro)
     have hU:TxC a2 c2 (flatTs (L.take (k+1)))=RowC 9 1 (.slice a2 ((flatTs (L.take k)).length+z.data.length) c2) ((flatTs (L.take k)).length+z.data.length) ((flatTs (L.take k)).flatMap encTx++z.data.flatMap encTx):=by rw [hft,txC_app]
     rw [← hU,← hlen]
     exact ⟨_,by omega,k+1,a2,c2,rfl,by omega,⟨_,atks⟩,asls⟩
   · obtain rfl:k=L.length:=by omega
     rw [htl]
     repeat' (first|exact xf|refine aw0 ?_|(refine ap2 ?_ ?_<;>try intro h)|refine aw1 ?_|(refine abx ?_;intro bb)|(refine abz ?_;intro bz)|(refine ahv ?_;intro v' hv')|(refine aac ?_;intro ac cc)|refine aw2 ?_|(refine ap4 ?_ ?_<;>try intro h)|apply True.intro)
     ((with_reducible apply fp_ret);exact res_1 rfl rfl)
     exact HR.out _ _ _ [_] atks ⟨_,_,rfl,rfl⟩
theorem concatT2 (r:Hp) (bz:Nat) (v1 v2:Value) (l1 l2:List Tx) (h1:Els r 1 encTx v1 l1) (h2:Els r 1 encTx v2 l2) (T:TypeId) (hb:r bz=some (.cells [v1,v2].toArray T (0,0))) (hl:(l1++l2).length<=1000000000):Tri Tryz.prog r 78 [.slice (some ⟨bz,0,none⟩) 2 2] [] fun w H => ∃ a c,w = .slice a (l1++l2).length c/\H=[TxC a c (l1++l2)]:=by
 have h:=concatT_any r (.slice (some ⟨bz,0,none⟩) 2 2) [⟨v1,l1⟩,⟨v2,l2⟩] ⟨fun _=>rfl,Sl.lit (n:=2) hb rfl (by simp [maxLen])⟩ (fun z hz=>by
  rcases List.mem_cons.1 hz with rfl|hz
  · exact h1
  · obtain rfl:=List.mem_singleton.1 hz
    exact h2) (by simpa [flatTs] using hl) (by simp)
 rw [show flatTs [(⟨v1,l1⟩:TsV),⟨v2,l2⟩]=l1++l2 by simp [flatTs]] at h
 exact h
end Go.Proofs.YteknekiclhnkiaaGreatDoor
