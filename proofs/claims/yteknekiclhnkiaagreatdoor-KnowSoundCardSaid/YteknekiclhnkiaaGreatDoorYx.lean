/- asker's behind, kids, cat, alt, group: their contracts. -/
import Derived.Test.YteknekiclhnkiaaGreatDoorYw
set_option maxHeartbeats 8000000
set_option maxRecDepth 10000
namespace Go.Proofs.YteknekiclhnkiaaGreatDoor
open Go.RowKit Sx
abbrev PT:Int->Nat->Bool:=fun _ _=>true
theorem matNs_map (P:Int->Nat->Bool) (s:Tx) : ∀ l:List Nd,matNs P s l=l.map (matN P s)
 | []=>by simp [matNs]
 | n::l=>by simp [matNs,matNs_map P s l]
theorem subsT_snoc {n:Nat} {T:List Nat} {r:Rel} (ho:TabOk n T) (hs:SubT T r) : ∀ {l:List (List Nat)} {k:List Rel},SubsT n l k->SubsT n (l++[T]) (k++[r])
 | [],[],_=>⟨ho,hs,trivial⟩
 | [],_::_,h=>h.elim
 | _::_,[],h=>h.elim
 | _::l,_::k,h=>⟨h.1,h.2.1,subsT_snoc ho hs (l:=l) (k:=k) h.2.2⟩
def SpT (s:Tx) (x:NoV):Prop := ∀ (r:Hp) (v:Value),TabF r->NoR r x->U8S r v s->one? v=true->Tri Tryz.prog r 32 [.agg [v].toArray,.agg (encN x).toArray] [] fun w H => ∃ T a c,TabOk s.length T/\SubT T (matN PT s x.key)/\w = .slice a T.length c/\H=[TbC a c T]
theorem map_take_succ {α β:Type} [Inhabited α] (f:α->β) (l:List α) {k:Nat} (h:k<l.length) {x:α} (hx:l.getD k default=x):(l.take (k+1)).map f=(l.take k).map f++[f x]:=by
 rw [take_getD (d:=default) h,hx,List.map_append];rfl
theorem behind_sp (r:Hp) (hT:TabF r) (v:Value) (s:Tx) (hv:U8S r v s) (hs:s.length<=62) (hv1:one? v=true) (lv:Value) (L:List TbV) (hl:Els r 1 encTb lv L) (hL : ∀ z∈L,Els r 4 encE (.slice z.a z.T.length z.c) z.T) (oL : ∀ z∈L,TabOk s.length z.T):Tri Tryz.prog r 92 [.agg [v].toArray,lv] [] fun w H => ∃ a c,w = .slice a (behL s.length (L.map (·.T))).length c/\H=[TbC a c (behL s.length (L.map (·.T)))]:=by
 have hst:=still_any r v s hv hs hv1
 have hlm:=maxI hl.2.2.1
 have hea : ∀ r' (_:sub r r') b5 b7 a c A (z:TbV),TabOk s.length A->TabOk s.length z.T->Els r' 4 encE (.slice a A.length c) A->Els r 4 encE (.slice z.a z.T.length z.c) z.T->r' b5=some (tbox b5 a c A).2->r' b7=some (tbox b7 z.a z.c z.T).2->Tri Tryz.prog r' 87 [v,.func (.func 126) #[] [.pointer (some ⟨b5,0,none⟩),.pointer (some ⟨b7,0,none⟩)].toArray] [noJ] fun w H => ∃ a c,w = .slice a (behT s.length A z.T).length c/\H=[TbC a c (behT s.length A z.T),noJ]:=fun r' hr b5 b7 a c A z oA oz hA hz h5 h7=>each_any r' v s (hv.mono hr) hs 126 _ (goesOf Tryz.func126 (by kernel_rfl) rfl) (fun _=>noJ) (fun i=>orAll z.T (bitsX (A.getD i 0))) fun i hi=>(behind1_any r' (hT.mono hr) s.length (by omega) b5 b7 a z.a c z.c A z.T hA (hz.mono hr) oA oz h5 h7 i hi).addJ
 refine Tri.free2 fun R HR=>?_
 refine ae Tryz.func92 Tryz.ntmps92 ?_
 repeat' (first|((with_reducible apply kx_box (v:= .agg [v].toArray));rfl;(exact qcl);intro b2;(refine apk ?_))|(refine acl Tryz.func86 ?_;refine acr (hst) ?_;rintro v' H' ⟨a0,c0,rfl,rfl⟩;refine apl ?_)|((with_reducible apply kx_alloc (E:=69));exact ty_zero;(exact qcl);intro b5;(refine apk ?_))|exact xf|refine aw0 ?_|(refine ap2 ?_ ?_<;>try intro h)|refine aw1 ?_|(refine abx ?_;intro bb)|(refine abz ?_;intro bz)|(refine ahv ?_;intro v' hv')|(refine aac ?_;intro ac cc)|refine aw2 ?_|(refine ap4 ?_ ?_<;>try intro h)|apply True.intro)
 refine sw_loop (fun gm t H' => ∃ (k:Nat) (a:Option Addr) (c:Nat),gm=L.length+1 - k/\(k<=L.length)/\(∃ G,Takes [pt b2 (.cells [v].toArray 72 (0,0)),pt b5 (tbox b5 a c (behL s.length ((L.take k).map (·.T)))).2,TbC a c (behL s.length ((L.take k).map (·.T)))] H' G)/\Sls t 22 [(2,.pointer (some ⟨b2,0,none⟩)),(5,.pointer (some ⟨b5,0,none⟩)),(10,lv),(11,.int .i64 L.length),(12,.int .i64 k)]) _ ⟨0,a0,c0,rfl,Nat.zero_le _,⟨_,atks⟩,asls⟩ ?_
 rintro gm t H' ⟨k,a,c,rfl,hk,⟨G,hp⟩,hs'⟩
 revert t;refine sls_all ?_;iterate 17 intro uu'
 refine sw_takeG hp ?_;clear hp
 have hBo:TabOk s.length (behL s.length ((L.take k).map (·.T))):=behL_ok fun B hB=>by
  obtain ⟨z,hz,rfl⟩:=List.mem_map.1 hB
  exact oL z (List.mem_of_mem_take hz)
 by_cases hlt:k<L.length
 · obtain ⟨z,hz⟩ : ∃ z,L.getD k default=z:=⟨_,rfl⟩
   have hzm:z∈L:=hz ▸ getD_memU hlt
   have hzo:=oL z hzm
   have hze:=hL z hzm
   have htk:behL s.length ((L.take (k+1)).map (·.T))=behT s.length (behL s.length ((L.take k).map (·.T))) z.T:=by
    rw [map_take_succ _ _ hlt hz,behL_snoc]
   obtain ⟨B,hB⟩ : ∃ B,behL s.length ((L.take k).map (·.T))=B:=⟨_,rfl⟩
   rw [hB] at htk hBo
   rw [hB]
   dsimp only [tbox]
   repeat' (first|(rw [hz])|(rw [show encTb z=[.slice z.a z.T.length z.c] from rfl])|((with_reducible apply kx_alloc (E:=69));exact ty_zero;(exact qcl);intro b7;(refine apk ?_))|((with_reducible refine swo_isCall 87 ?_);(refine swo_put (A:=noJ) rfl ?_);(with_reducible apply kx_lendC (A:=TbC a c B));(exact atk);intro r6 g6 hr6 hg6 hA6;((with_reducible apply kx_lend [(b5,.cells [.slice a B.length c].toArray 69 (0,0)),(b7,.cells [.slice z.a z.T.length z.c].toArray 69 (0,0))]);(exact atks);intro r' hl';refine acl Tryz.func87 ?_;refine acr (hea r' (Sx.sub.trans hr6 hl'.1) b5 b7 a c B z hBo hzo (tbC_els hA6 (Sx.sub.trans hg6 hl'.1)) hze (Lent.h1 hl') (Lent.h2 hl')) ?_;rintro v' H' ⟨a9,c9,rfl,rfl⟩;all_goals refine apm ?_))|exact xf|refine aw0 ?_|(refine ap2 ?_ ?_<;>try intro h)|refine aw1 ?_|(refine abx ?_;intro bb)|(refine abz ?_;intro bz)|(refine ahv ?_;intro v' hv')|(refine aac ?_;intro ac cc)|refine aw2 ?_|(refine ap4 ?_ ?_<;>try intro h)|apply True.intro)
   exact ⟨_,by omega,k+1,a9,c9,rfl,by omega,⟨_,by rw [htk];exact atks⟩,asls⟩
 · obtain rfl:k=L.length:=by omega
   rw [List.take_length]
   dsimp only [tbox]
   repeat' (first|exact xf|refine aw0 ?_|(refine ap2 ?_ ?_<;>try intro h)|refine aw1 ?_|(refine abx ?_;intro bb)|(refine abz ?_;intro bz)|(refine ahv ?_;intro v' hv')|(refine aac ?_;intro ac cc)|refine aw2 ?_|(refine ap4 ?_ ?_<;>try intro h)|apply True.intro)
   ((with_reducible apply fp_ret);exact res_1 rfl rfl)
   exact HR.out _ _ _ [TbC a c (behL s.length (L.map (·.T)))] atks ⟨a,c,rfl,rfl⟩
theorem kids_sp (r:Hp) (hT:TabF r) (v:Value) (s:Tx) (hv:U8S r v s) (hv1:one? v=true) (k:Int) (s0 s1 s2 s3:Nat) (kv:Value) (mn mx:Int) (lz:Bool) (gr:Int) (l:List NoV) (hll:l.length<=1000) (hl:Els r 10 encN kv l) (_hk1:one? kv=true) (hr : ∀ x∈l,NoR r x) (ih : ∀ x∈l,SpT s x):Tri Tryz.prog r 93 [.agg [v].toArray,.agg [.int .i64 k,.int .u64 s0,.int .u64 s1,.int .u64 s2,.int .u64 s3,kv,.int .i64 mn,.int .i64 mx,.bool lz,.int .i64 gr].toArray] [] fun w H => ∃ (Z:List TbV) (a:Option Addr) (c:Nat),SubsT s.length (Z.map (·.T)) (matNs PT s (l.map NoV.key))/\w = .slice a Z.length c/\H=[RowC 69 1 (.slice a Z.length c) Z.length (Z.flatMap encTb),TbsC Z]:=by
 have hlm:=maxI hl.2.2.1
 refine Tri.free2 fun R HR=>?_
 refine ae Tryz.func93 Tryz.ntmps93 ?_
 repeat' (first|((with_reducible apply kx_box (v:= .agg [v].toArray));rfl;(exact qcl);intro b2;(refine apk ?_))|((with_reducible apply kx_box);rfl;(exact qcl);intro b3;(refine apk ?_))|exact xf|refine aw0 ?_|(refine ap2 ?_ ?_<;>try intro h)|refine aw1 ?_|(refine abx ?_;intro bb)|(refine abz ?_;intro bz)|(refine ahv ?_;intro v' hv')|(refine aac ?_;intro ac cc)|refine aw2 ?_|(refine ap4 ?_ ?_<;>try intro h)|apply True.intro)
 refine sw_put (A:=RowC 69 1 (.slice none 0 0) 0 []) (RowC.nil _ _) ?_
 refine sw_put (A:=TbsC []) rfl ?_
 refine sw_loop (fun gm t H' => ∃ (i:Nat) (Z:List TbV) (a:Option Addr) (c:Nat),gm=l.length+1 - i/\(i<=l.length)/\(Z.length=i)/\(SubsT s.length (Z.map (·.T)) ((l.take i).map fun x=>matN PT s x.key))/\(∃ G,Takes [pt b2 (.cells [v].toArray 72 (0,0)),RowC 69 1 (.slice a Z.length c) Z.length (Z.flatMap encTb),TbsC Z] H' G)/\Sls t 22 [(2,.pointer (some ⟨b2,0,none⟩)),(4,.slice a Z.length c),(8,kv),(9,.int .i64 l.length),(10,.int .i64 i)]) _ ⟨0,[],none,0,rfl,Nat.zero_le _,rfl,trivial,⟨_,atks⟩,asls⟩ ?_
 rintro gm t H' ⟨i,Z,a,c,rfl,hi,hZl,hZs,⟨G,hp⟩,hs'⟩
 revert t;refine sls_all ?_;iterate 17 intro uu'
 refine sw_takeG hp ?_;clear hp
 by_cases hlt:i<l.length
 · obtain ⟨x,hx⟩ : ∃ x,l.getD i default=x:=⟨_,rfl⟩
   have hxm:x∈l:=hx ▸ getD_memU hlt
   have hxr:=hr x hxm
   have hof:=ih x hxm r v hT hxr hv hv1
   have htk:=map_take_succ (fun x=>matN PT s x.key) l hlt hx
   obtain ⟨M,hM⟩ : ∃ M,matN PT s x.key=M:=⟨_,rfl⟩
   rw [hM] at hof
   rw [hM] at htk
   clear hM
   obtain ⟨xk,x0,x1,x2,x3,xv,xl,xmn,xmx,xlz,xg⟩:=x
   have hse:encN (.mk xk x0 x1 x2 x3 xv xl xmn xmx xlz xg)=[.int .i64 xk,.int .u64 x0,.int .u64 x1,.int .u64 x2,.int .u64 x3,xv,.int .i64 xmn,.int .i64 xmx,.bool xlz,.int .i64 xg]:=rfl
   have hx1:one? xv=true:=by simp only [NoR] at hxr;exact hxr.2.2.2.2.2.2.2
   have hN:([.int .i64 xk,.int .u64 x0,.int .u64 x1,.int .u64 x2,.int .u64 x3,xv,.int .i64 xmn,.int .i64 xmx,.bool xlz,.int .i64 xg]:List Value).all one?=true:=by
    simp only [List.all_cons,List.all_nil,hx1,Bool.and_true];rfl
   rw [hse] at hof
   clear hxr hxm
   repeat' (first|(rw [hx])|(rw [hse])|((with_reducible apply kx_alloc (E:=28));exact ty_zero;(exact qcl);intro b6;(refine apk ?_))|(refine acl Tryz.func32 ?_;refine acr (hof) ?_;rintro v' H' ⟨T,a9,c9,hTo,hTs,rfl,rfl⟩;refine apl ?_)|((with_reducible apply kx_storeN);exact ty_size;rfl;rfl;rfl;(exact qsw);exact hN;(exact qst);(refine apk ?_))|((refine swo_joinA (As:=[TbsC Z,TbC a9 c9 T]) (D:=TbsC (Z++[⟨a9,c9,T⟩])) atks (fun h e=>tbsC_snoc h e) ?_);(first|((with_reducible apply kx_bs1);exact ty_el;exact ty_inf;rfl;rfl;rfl;intro bz;(refine apk ?_))|((with_reducible apply kx_bsN);exact ty_el;exact ty_inf;rfl;rfl;rfl;intro bz;(refine apk ?_))))|(first|((with_reducible apply kx_bs1);exact ty_el;exact ty_inf;rfl;rfl;rfl;intro bz;(refine apk ?_))|((with_reducible apply kx_bsN);exact ty_el;exact ty_inf;rfl;rfl;rfl;intro bz;(refine apk ?_)))|(first|((with_reducible apply kx_append1);exact ty_el;exact ty_inf;rfl;rfl;rfl;(exact atk);(exact atk);rfl;omega;intro a' c';(refine apk ?_))|((with_reducible apply kx_appendN);exact ty_el;exact ty_inf;rfl;rfl;rfl;rfl;(exact atk);(exact atk);rfl;rfl;omega;intro a' c';(refine apk ?_)))|exact xf|refine aw0 ?_|(refine ap2 ?_ ?_<;>try intro h)|refine aw1 ?_|(refine abx ?_;intro bb)|(refine abz ?_;intro bz)|(refine ahv ?_;intro v' hv')|(refine aac ?_;intro ac cc)|refine aw2 ?_|(refine ap4 ?_ ?_<;>try intro h)|apply True.intro)
   have hzl:(Z++[(⟨a9,c9,T⟩:TbV)]).length=Z.length+1:=by rw [List.length_append];rfl
   have hzf:(Z++[(⟨a9,c9,T⟩:TbV)]).flatMap encTb=Z.flatMap encTb++[.slice a9 T.length c9]:=by rw [List.flatMap_append];rfl
   exact ⟨_,by omega,i+1,Z++[⟨a9,c9,T⟩],a',c',rfl,by omega,by rw [hzl,hZl],by rw [htk,List.map_append];exact subsT_snoc hTo hTs hZs,⟨_,by rw [hzl,hzf];exact atks⟩,asls⟩
 · obtain rfl:i=l.length:=by omega
   rw [List.take_length] at hZs
   repeat' (first|exact xf|refine aw0 ?_|(refine ap2 ?_ ?_<;>try intro h)|refine aw1 ?_|(refine abx ?_;intro bb)|(refine abz ?_;intro bz)|(refine ahv ?_;intro v' hv')|(refine aac ?_;intro ac cc)|refine aw2 ?_|(refine ap4 ?_ ?_<;>try intro h)|apply True.intro)
   ((with_reducible apply fp_ret);exact res_1 rfl rfl)
   exact HR.out _ _ _ [RowC 69 1 (.slice a Z.length c) Z.length (Z.flatMap encTb),TbsC Z] atks ⟨Z,a,c,by rw [matNs_map,List.map_map];exact hZs,rfl,rfl⟩
theorem cat_sp (r:Hp) (hT:TabF r) (v:Value) (s:Tx) (hv:U8S r v s) (hs:s.length<=62) (hv1:one? v=true) (k:Int) (s0 s1 s2 s3:Nat) (kv:Value) (mn mx:Int) (lz:Bool) (gr:Int) (l:List NoV) (hll:l.length<=1000) (hl:Els r 10 encN kv l) (hk1:one? kv=true) (hr : ∀ x∈l,NoR r x) (ih : ∀ x∈l,SpT s x):Tri Tryz.prog r 53 [.agg [v].toArray,.agg [.int .i64 k,.int .u64 s0,.int .u64 s1,.int .u64 s2,.int .u64 s3,kv,.int .i64 mn,.int .i64 mx,.bool lz,.int .i64 gr].toArray] [] fun w H => ∃ T a c,(TabOk s.length T/\SubT T ((matNs PT s (l.map NoV.key)).foldl compR (stillR s)))/\w = .slice a T.length c/\H=[TbC a c T]:=by
 have hki:=kids_sp r hT v s hv hv1 k s0 s1 s2 s3 kv mn mx lz gr l hll hl hk1 hr ih
 have hbe : ∀ (Z:List TbV) (a:Option Addr) (c:Nat),(∀ z∈Z,TabOk s.length z.T)->Tri Tryz.prog r 92 [.agg [v].toArray,.slice a Z.length c] [RowC 69 1 (.slice a Z.length c) Z.length (Z.flatMap encTb),TbsC Z] fun w H => ∃ a c,w = .slice a (behL s.length (Z.map (·.T))).length c/\H=[TbC a c (behL s.length (Z.map (·.T)))]:=fun Z a c oZ=>Tri.frz fun r1 g1 s1 t1 h1=>Tri.frz fun r2 g2 s2 t2 h2=>behind_sp r2 (hT.mono (Sx.sub.trans s1 s2)) v s (hv.mono (Sx.sub.trans s1 s2)) hs hv1 _ Z ⟨fun _=>rfl,h1.sl (Sx.sub.trans t1 s2)⟩ (tbsC_in h2 t2) oZ
 obtain ⟨M,hM⟩ : ∃ M,matNs PT s (l.map NoV.key)=M:=⟨_,rfl⟩
 rw [hM] at hki ⊢
 have hok : ∀ {Z:List TbV},SubsT s.length (Z.map (·.T)) M -> ∀ z∈Z,TabOk s.length z.T:=fun h z hz=>h.ok _ (List.mem_map_of_mem hz)
 refine Tri.free2 fun R HR=>?_
 refine ae Tryz.func53 Tryz.ntmps53 ?_
 repeat' (first|((with_reducible apply kx_box (v:= .agg [v].toArray));rfl;(exact qcl);intro b2;(refine apk ?_))|((with_reducible apply kx_box);rfl;(exact qcl);intro b3;(refine apk ?_))|((with_reducible apply sw_draw (id:=1) 5 [(0,true),(1,true),(2,true),(3,false),(4,false)] [(5,false)] [(b2,(.cells [v].toArray 72 (0,0))),(b3,(.cells [.int .i64 k,.int .u64 s0,.int .u64 s1,.int .u64 s2,.int .u64 s3,kv,.int .i64 mn,.int .i64 mx,.bool lz,.int .i64 gr].toArray 28 (0,0)))]);kernel_rfl;(exact atks);kernel_rfl;intro r' hl')|((with_reducible apply pi_pur);rfl;(exact qwt);(with_reducible apply pu_ldP);rfl;(first|assumption|exact Lent.h1 hl'|exact Lent.h2 hl'|exact Lent.h3 hl');(simp only [cut,List.drop_zero,List.take_succ_cons,List.take_zero];rfl);rfl;(refine apk ?_))|((with_reducible apply pi_pur);rfl;(exact qwt);(with_reducible apply pu_ldW);rfl;(first|assumption|exact Lent.h1 hl'|exact Lent.h2 hl'|exact Lent.h3 hl');rfl;(refine apk ?_))|(refine acl Tryz.func93 ?_;refine acr (hki.up hl'.1) ?_;rintro v' H' ⟨Z,a8,c8,hZ,rfl,rfl⟩;refine apl ?_)|((with_reducible refine swo_isCall 92 ?_);(first|(refine acl Tryz.func92 ?_;refine acr ((hbe Z a8 c8 (hok hZ)).up hl'.1) ?_;rintro v' H' ⟨a9,c9,rfl,rfl⟩;refine apl ?_)|(refine acl Tryz.func92 ?_;refine acr (hbe Z a8 c8 (hok hZ)) ?_;rintro v' H' ⟨a9,c9,rfl,rfl⟩;refine apl ?_)))|exact xf|refine aw0 ?_|(refine ap2 ?_ ?_<;>try intro h)|refine aw1 ?_|(refine abx ?_;intro bb)|(refine abz ?_;intro bz)|(refine ahv ?_;intro v' hv')|(refine aac ?_;intro ac cc)|refine aw2 ?_|(refine ap4 ?_ ?_<;>try intro h)|apply True.intro)
 all_goals
  ((with_reducible apply fp_ret);exact res_1 rfl rfl)
  exact HR.out _ _ _ [TbC a9 c9 (behL s.length (Z.map (·.T)))] atks ⟨_,a9,c9,⟨behL_ok hZ.ok,behL_sub (by omega) hZ⟩,rfl,rfl⟩
theorem group_sp (r:Hp) (hT:TabF r) (v:Value) (s:Tx) (hv:U8S r v s) (hv1:one? v=true) (k:Int) (s0 s1 s2 s3:Nat) (kv:Value) (mn mx:Int) (lz:Bool) (gr:Int) (x:NoV) (l:List NoV) (hl:Els r 10 encN kv (x::l)) (_hk1:one? kv=true) (hr:NoR r x) (ih:SpT s x):Tri Tryz.prog r 55 [.agg [v].toArray,.agg [.int .i64 k,.int .u64 s0,.int .u64 s1,.int .u64 s2,.int .u64 s3,kv,.int .i64 mn,.int .i64 mx,.bool lz,.int .i64 gr].toArray] [] fun w H => ∃ T a c,TabOk s.length T/\SubT T (matN PT s x.key)/\w = .slice a T.length c/\H=[TbC a c T]:=by
 have hlm:=maxI hl.2.2.1
 have hll:(x::l).length=l.length+1:=rfl
 have hof:=ih r v hT hr hv hv1
 have hget:(x::l).getD 0 default=x:=rfl
 obtain ⟨M,hM⟩ : ∃ M,matN PT s x.key=M:=⟨_,rfl⟩
 rw [hM] at hof ⊢
 clear hM
 refine Tri.free2 fun R HR=>?_
 refine ae Tryz.func55 Tryz.ntmps55 ?_
 repeat' (first|((with_reducible apply kx_box (v:= .agg [v].toArray));rfl;(exact qcl);intro b2;(refine apk ?_))|((with_reducible apply kx_box);rfl;(exact qcl);intro b3;(refine apk ?_))|(rw [hget])|((((with_reducible apply sw_draw (id:=1) 6 [(0,true),(1,true),(2,true),(3,true),(4,true),(5,false)] [(6,false)] [(b2,(.cells [v].toArray 72 (0,0))),(b3,(.cells [.int .i64 k,.int .u64 s0,.int .u64 s1,.int .u64 s2,.int .u64 s3,kv,.int .i64 mn,.int .i64 mx,.bool lz,.int .i64 gr].toArray 28 (0,0)))]);kernel_rfl;(exact atks);kernel_rfl;intro r' hl'));have hl2:=hl.mono hl'.1)|((with_reducible apply pi_pur);rfl;(exact qwt);(with_reducible apply pu_ldP);rfl;(first|assumption|exact Lent.h1 hl'|exact Lent.h2 hl'|exact Lent.h3 hl');(simp only [cut,List.drop_zero,List.take_succ_cons,List.take_zero];rfl);rfl;(refine apk ?_))|((with_reducible apply pi_pur);rfl;(exact qwt);(with_reducible apply pu_ldW);rfl;(first|assumption|exact Lent.h1 hl'|exact Lent.h2 hl'|exact Lent.h3 hl');rfl;(refine apk ?_))|(refine acl Tryz.func32 ?_;refine acr (hof.up hl'.1) ?_;rintro v' H' ⟨T,a9,c9,hTo,hTs,rfl,rfl⟩;refine apl ?_)|exact xf|refine aw0 ?_|(refine ap2 ?_ ?_<;>try intro h)|refine aw1 ?_|(refine abx ?_;intro bb)|(refine abz ?_;intro bz)|(refine ahv ?_;intro v' hv')|(refine aac ?_;intro ac cc)|refine aw2 ?_|(refine ap4 ?_ ?_<;>try intro h)|apply True.intro)
 all_goals
  ((with_reducible apply fp_ret);exact res_1 rfl rfl)
  exact HR.out _ _ _ [TbC a9 c9 T] atks ⟨T,a9,c9,hTo,hTs,rfl,rfl⟩
end Go.Proofs.YteknekiclhnkiaaGreatDoor
