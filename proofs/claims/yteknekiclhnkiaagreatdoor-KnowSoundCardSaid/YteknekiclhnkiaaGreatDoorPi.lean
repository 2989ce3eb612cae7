/- work.repeat at once and more: its contract. -/
import Derived.Test.YteknekiclhnkiaaGreatDoorOx
import Derived.Test.YteknekiclhnkiaaGreatDoorPf
set_option maxHeartbeats 4000000
set_option maxRecDepth 10000
namespace Go.Proofs.YteknekiclhnkiaaGreatDoor
open Go.RowKit Sx
def kidsV:NoV->Value | .mk _ _ _ _ _ v _ _ _ _ _=>v
theorem kid_of (r:Hp) (k:Int) (s0 s1 s2 s3:Nat) (kv:Value) (l:List NoV) (mn mx:Int) (lz:Bool) (gr:Int) (x:NoV) (hl:Els r 10 encN kv (x::l)) (_hk1:one? kv=true) (hx:one? (kidsV x)=true):Tri Tryz.prog r 47 [.agg [.int .i64 k,.int .u64 s0,.int .u64 s1,.int .u64 s2,.int .u64 s3,kv,.int .i64 mn,.int .i64 mx,.bool lz,.int .i64 gr].toArray,.int .i64 0] [] fun w H=>w = .agg (encN x).toArray/\H=[]:=by
 have hlm:=maxI hl.2.2.1
 obtain ⟨xk,x0,x1,x2,x3,xv,xl,xmn,xmx,xlz,xg⟩:=x
 have hx1:one? xv=true:=hx
 have hse:encN (.mk xk x0 x1 x2 x3 xv xl xmn xmx xlz xg)=[.int .i64 xk,.int .u64 x0,.int .u64 x1,.int .u64 x2,.int .u64 x3,xv,.int .i64 xmn,.int .i64 xmx,.bool xlz,.int .i64 xg]:=rfl
 have hN:([.int .i64 xk,.int .u64 x0,.int .u64 x1,.int .u64 x2,.int .u64 x3,xv,.int .i64 xmn,.int .i64 xmx,.bool xlz,.int .i64 xg]:List Value).all one?=true:=by
  simp only [List.all_cons,List.all_nil,hx1,Bool.and_true];rfl
 have hget:(NoV.mk xk x0 x1 x2 x3 xv xl xmn xmx xlz xg::l).getD 0 default = .mk xk x0 x1 x2 x3 xv xl xmn xmx xlz xg:=rfl
 refine Tri.free2 fun R HR=>?_
 refine ae Tryz.func47 Tryz.ntmps47 ?_
 repeat' (first|(rw [hget])|(rw [hse])|((with_reducible apply kx_box);rfl;(exact qcl);intro b1;(refine apk ?_))|((with_reducible apply kx_alloc (E:=28));exact ty_zero;(exact qcl);intro b2;(refine apk ?_))|((with_reducible apply kx_storeN);exact ty_size;rfl;rfl;rfl;(exact qsw);exact hN;(exact qst);(refine apk ?_))|exact xf|refine aw0 ?_|(refine ap2 ?_ ?_<;>try intro h)|refine aw1 ?_|(refine abx ?_;intro bb)|(refine abz ?_;intro bz)|(refine ahv ?_;intro v' hv')|(refine aac ?_;intro ac cc)|refine aw2 ?_|(refine ap4 ?_ ?_<;>try intro h)|apply True.intro)
 ((with_reducible apply fp_ret);exact res_W rfl rfl atk ty_agg ty_size rfl)
 exact HR.out _ _ _ [] atks ⟨rfl,rfl⟩
theorem group_of (r:Hp) (hT:TabR r) (k:Int) (s0 s1 s2 s3:Nat) (kv:Value) (l:List NoV) (mn mx:Int) (lz:Bool) (gr:Int) (x:NoV) (hl:Els r 10 encN kv (x::l)) (hk1:one? kv=true) (hr:NoR r x) (ih:OfT x):Tri Tryz.prog r 30 [.agg [.int .i64 k,.int .u64 s0,.int .u64 s1,.int .u64 s2,.int .u64 s3,kv,.int .i64 mn,.int .i64 mx,.bool lz,.int .i64 gr].toArray] [] fun w H => ∃ u:InfV,u.key=ofI x.key/\(encQ u.q).all one?=true/\w = .agg [.bool u.known,.slice u.ea u.ex.length u.ec,.slice u.pa u.pre.length u.pc,.slice u.sa u.suf.length u.sc,.int .i64 u.q.kind,u.q.gv,u.q.sv].toArray/\H=[OwnI u]:=by
 have hof:=ih r hT hr
 have hx:one? (kidsV x)=true:=by
  obtain ⟨xk,x0,x1,x2,x3,xv,xl,xmn,xmx,xlz,xg⟩:=x
  simp only [NoR] at hr
  exact hr.2.2.2.2.2.2.2
 have hki:=kid_of r k s0 s1 s2 s3 kv l mn mx lz gr x hl hk1 hx
 clear hx hl hr ih
 obtain ⟨U,hU⟩ : ∃ U,ofI x.key=U:=⟨_,rfl⟩
 rw [hU] at hof ⊢
 refine Tri.free2 fun R HR=>?_
 refine ae Tryz.func30 Tryz.ntmps30 ?_
 repeat' (first|((with_reducible apply kx_box);rfl;(exact qcl);intro b1;(refine apk ?_))|((with_reducible apply kx_alloc (E:=40));exact ty_zero;(exact qcl);intro b2;(refine apk ?_))|(refine acl Tryz.func47 ?_;refine acr (hki) ?_;rintro v' H' ⟨rfl,rfl⟩;refine apl ?_)|(refine acl Tryz.func9 ?_;refine acr (hof) ?_;rintro v' H' ⟨u,hu1,hu2,rfl,rfl⟩;refine apl ?_)|((with_reducible apply kx_storeN);exact ty_size;rfl;rfl;rfl;(exact qsw);exact encI_one hu2;(exact qst);(refine apk ?_))|exact xf|refine aw0 ?_|(refine ap2 ?_ ?_<;>try intro h)|refine aw1 ?_|(refine abx ?_;intro bb)|(refine abz ?_;intro bz)|(refine ahv ?_;intro v' hv')|(refine aac ?_;intro ac cc)|refine aw2 ?_|(refine ap4 ?_ ?_<;>try intro h)|apply True.intro)
 ((with_reducible apply fp_ret);exact res_W rfl rfl atk ty_agg ty_size rfl)
 exact HR.out _ _ _ [OwnI u] atks ⟨u,hu1,hu2,rfl,rfl⟩
theorem repeat0_of (r:Hp) (hT:TabR r) (k:Int) (s0 s1 s2 s3:Nat) (kv:Value) (l:List NoV) (mn:Int) (lz:Bool) (gr:Int) (_hk1:one? kv=true):Tri Tryz.prog r 29 [.agg [.int .i64 k,.int .u64 s0,.int .u64 s1,.int .u64 s2,.int .u64 s3,kv,.int .i64 mn,.int .i64 0,.bool lz,.int .i64 gr].toArray] [] fun w H => ∃ u:InfV,u.key=exactI [[]]/\(encQ u.q).all one?=true/\w = .agg [.bool u.known,.slice u.ea u.ex.length u.ec,.slice u.pa u.pre.length u.pc,.slice u.sa u.suf.length u.sc,.int .i64 u.q.kind,u.q.gv,u.q.sv].toArray/\H=[OwnI u]:=by
 have hno:=none_any r hT (.mk k s0 s1 s2 s3 kv l mn 0 lz gr)
 rw [show encN (.mk k s0 s1 s2 s3 kv l mn 0 lz gr)=[.int .i64 k,.int .u64 s0,.int .u64 s1,.int .u64 s2,.int .u64 s3,kv,.int .i64 mn,.int .i64 0,.bool lz,.int .i64 gr] from rfl] at hno
 refine Tri.free2 fun R HR=>?_
 refine ae Tryz.func29 Tryz.ntmps29 ?_
 repeat' (first|((with_reducible apply kx_box);rfl;(exact qcl);intro b1;(refine apk ?_))|((with_reducible apply kx_alloc (E:=40));exact ty_zero;(exact qcl);intro b2;(refine apk ?_))|(refine acl Tryz.func25 ?_;refine acr (hno) ?_;rintro v' H' ⟨u,hu1,hu2,rfl,rfl⟩;refine apl ?_)|((with_reducible apply kx_storeN);exact ty_size;rfl;rfl;rfl;(exact qsw);exact encI_one hu2;(exact qst);(refine apk ?_))|exact xf|refine aw0 ?_|(refine ap2 ?_ ?_<;>try intro h)|refine aw1 ?_|(refine abx ?_;intro bb)|(refine abz ?_;intro bz)|(refine ahv ?_;intro v' hv')|(refine aac ?_;intro ac cc)|refine aw2 ?_|(refine ap4 ?_ ?_<;>try intro h)|apply True.intro)
 ((with_reducible apply fp_ret);exact res_W rfl rfl atk ty_agg ty_size rfl)
 exact HR.out _ _ _ [OwnI u] atks ⟨u,hu1,hu2,rfl,rfl⟩
theorem repeat1_of (r:Hp) (hT:TabR r) (k:Int) (s0 s1 s2 s3:Nat) (kv:Value) (l:List NoV) (lz:Bool) (gr:Int) (x:NoV) (hl:Els r 10 encN kv (x::l)) (hk1:one? kv=true) (hr:NoR r x) (ih:OfT x):Tri Tryz.prog r 29 [.agg [.int .i64 k,.int .u64 s0,.int .u64 s1,.int .u64 s2,.int .u64 s3,kv,.int .i64 1,.int .i64 1,.bool lz,.int .i64 gr].toArray] [] fun w H => ∃ u:InfV,u.key=ofI x.key/\(encQ u.q).all one?=true/\w = .agg [.bool u.known,.slice u.ea u.ex.length u.ec,.slice u.pa u.pre.length u.pc,.slice u.sa u.suf.length u.sc,.int .i64 u.q.kind,u.q.gv,u.q.sv].toArray/\H=[OwnI u]:=by
 have hgr:=group_of r hT k s0 s1 s2 s3 kv l 1 1 lz gr x hl hk1 hr ih
 clear hl hr ih
 obtain ⟨U,hU⟩ : ∃ U,ofI x.key=U:=⟨_,rfl⟩
 rw [hU] at hgr ⊢
 refine Tri.free2 fun R HR=>?_
 refine ae Tryz.func29 Tryz.ntmps29 ?_
 repeat' (first|((with_reducible apply kx_box);rfl;(exact qcl);intro b1;(refine apk ?_))|((with_reducible apply kx_alloc (E:=40));exact ty_zero;(exact qcl);intro b2;(refine apk ?_))|(refine acl Tryz.func30 ?_;refine acr (hgr) ?_;rintro v' H' ⟨u,hu1,hu2,rfl,rfl⟩;refine apl ?_)|((with_reducible apply kx_storeN);exact ty_size;rfl;rfl;rfl;(exact qsw);exact encI_one hu2;(exact qst);(refine apk ?_))|exact xf|refine aw0 ?_|(refine ap2 ?_ ?_<;>try intro h)|refine aw1 ?_|(refine abx ?_;intro bb)|(refine abz ?_;intro bz)|(refine ahv ?_;intro v' hv')|(refine aac ?_;intro ac cc)|refine aw2 ?_|(refine ap4 ?_ ?_<;>try intro h)|apply True.intro)
 ((with_reducible apply fp_ret);exact res_W rfl rfl atk ty_agg ty_size rfl)
 exact HR.out _ _ _ [OwnI u] atks ⟨u,hu1,hu2,rfl,rfl⟩
end Go.Proofs.YteknekiclhnkiaaGreatDoor
namespace Go.Proofs.YteknekiclhnkiaaGreatDoor
def outO (a b:InfK):InfK:=if a.known=true/\b.known=true then ⟨true,a.ex++b.ex,[],[],orQ [a.m,b.m]⟩ else ⟨false,[],(looseK a).pre++(looseK b).pre,(looseK a).suf++(looseK b).suf,orQ [(looseK a).m,(looseK b).m]⟩
theorem or_out (a b:InfK):orI a b=settledK (outO a b):=by
 unfold orI outO
 split<;>rfl
structure FitO (a b:InfK):Prop where
 fa:FitI a
 fb:FitI b
 sa:SmI a
 sb:SmI b
 fo:FitI (outO a b)
 om:sizeQ (outO a b).m<=5000000
 sm:sizeQ a.m+sizeQ b.m<=6000000
 sl:sizeQ (looseK a).m+sizeQ (looseK b).m<=6000000
theorem fitO_ok {w v:Nat} {a b:InfK} (ha:OkI w a) (hb:OkI v b) (hw:w+v<=60) (ra:rightQ a.m=true) (rb:rightQ b.m=true):FitO a b:=by
 have e4:=ha.size
 have e5:=hb.size
 obtain ⟨la,sa,_⟩:=size_loose ha.small
 obtain ⟨lb,sb,_⟩:=size_loose hb.small
 have sm : ∀ {i:InfK},SmallI 8 40 i->SmI i:=fun h=>⟨by have:=h.ex.1;omega,by have:=h.pre.1;omega,by have:=h.suf.1;omega⟩
 have hq1:=size_orQ [a.m,b.m]
 have hq2:=size_orQ [(looseK a).m,(looseK b).m]
 simp only [sizeQs] at hq1 hq2
 have hs:SmallI 16 40 (outO a b):=by
  unfold outO
  split
  · exact ⟨ha.small.ex.app hb.small.ex,few_nil _ _,few_nil _ _⟩
  · exact ⟨few_nil _ _,sa.pre.app sb.pre,sa.suf.app sb.suf⟩
 have hm:sizeQ (outO a b).m<=4900000:=by
  unfold outO
  split<;>dsimp only<;>omega
 have hr:rightQ (outO a b).m=true:=by
  unfold outO
  split
  · exact right_orQ (sd_two ra rb)
  · exact right_orQ (sd_two (right_loose ra) (right_loose rb))
 have e1:=hs.ex.size
 have e2:=hs.pre.size
 have e3:=hs.suf.size
 exact ⟨fit_ok ha (by omega) ra,fit_ok hb (by omega) rb,sm ha.small,sm hb.small,⟨by omega,by omega,by omega,by omega,hr⟩,by omega,by omega,by omega⟩
theorem foldO {l:List Nd} : ∀ {k:List InfK} {w:Nat} {i:InfK},OkI w i->rightQ i.m=true->OksR l k->w+sizNs l<=60 -> ∀ j,j<k.length->FitO ((k.take j).foldl orI i) (k.getD j default):=by
 induction l with
 | nil =>
  intro k w i _ _ g _ j hj
  match k,g with
  | [],_=>simp at hj
 | cons n l ih =>
  intro k w i h hr g hw j hj
  match k,g with
  | x::k,g =>
   unfold sizNs at hw
   have hb:=fitO_ok h g.1.1 (by omega) hr g.1.2
   match j,hj with
   | 0,_=>exact hb
   | j+1,hj =>
    have h1:=size_orI h.small g.1.1.small
    have h2:=h.size
    have h3:=g.1.1.size
    exact ih (k:=k) (w:=w+sizN n) (i:=orI i x) ⟨or_small _ _,by omega⟩ (right_or hr g.1.2) g.2 (by omega) j (by simpa using hj)
theorem foldO_kids {l:List Nd} (h:sizNs l<=60) (o:InfK) : ∀ j,1<=j->j<(ofIs l).length->FitO (joinI o orI ((ofIs l).take j)) ((ofIs l).getD j default):=by
 intro j h1 h2
 match l,j,h1,h2 with
 | [],j,_,h2=>unfold ofIs at h2;simp at h2
 | n::l,j+1,_,h2 =>
  unfold ofIs at h2 ⊢
  unfold sizNs at h
  exact foldO (of_okI n) (of_good (fun _ _=>true) [] n).rt (ofs_okR l) h j (by simpa using h2)
theorem fit_loose {w:Nat} {i:InfK} (h:OkI w i) (hw:w<=59) (hr:rightQ i.m=true):FitI (looseK i)/\sizeQ (looseK i).m<=5000000:=by
 obtain ⟨h1,h2,_⟩:=size_loose h.small
 have h3:=h.size
 have e1:=h2.ex.size
 have e2:=h2.pre.size
 have e3:=h2.suf.size
 exact ⟨⟨by omega,by omega,by omega,by omega,right_loose hr⟩,by omega⟩
end Go.Proofs.YteknekiclhnkiaaGreatDoor
namespace Go.Proofs.YteknekiclhnkiaaGreatDoor
open Go.RowKit Sx
theorem looseI_any (r:Hp) (hT:TabR r) (i:InfV) (hf:FitI i.key) (ho:(encQ i.q).all one?=true):Tri Tryz.prog r 36 [.agg [.bool i.known,.slice i.ea i.ex.length i.ec,.slice i.pa i.pre.length i.pc,.slice i.sa i.suf.length i.sc,.int .i64 i.q.kind,i.q.gv,i.q.sv].toArray] [OwnI i] fun w H => ∃ i':InfV,i'.key=looseK i.key/\(i'.ea=none/\i'.ec=0)/\(encQ i'.q).all one?=true/\w = .agg [.bool i'.known,.slice i'.ea i'.ex.length i'.ec,.slice i'.pa i'.pre.length i'.pc,.slice i'.sa i'.suf.length i'.sc,.int .i64 i'.q.kind,i'.q.gv,i'.q.sv].toArray/\H=[IC r i']:=by
 refine tri_cv (Tri.lendI (R:=fun r' w H => ∃ i':InfV,i'.key=looseK i.key/\(i'.ea=none/\i'.ec=0)/\(encQ i'.q).all one?=true/\w = .agg [.bool i'.known,.slice i'.ea i'.ex.length i'.ec,.slice i'.pa i'.pre.length i'.pc,.slice i'.sa i'.suf.length i'.sc,.int .i64 i'.q.kind,i'.q.gv,i'.q.sv].toArray/\H=[IC r' i']) fun r' g s1 s2 _ h1=>loose_any r' (hT.mono s1) i (ownI_read h1 s2) hf ho) ?_
 rintro w H ⟨r',g,H'',s1,s2,h1,⟨i',hk,hz,ho',rfl,rfl⟩,rfl⟩
 refine ⟨_,⟨i',hk,hz,ho',rfl,rfl⟩,fun k hk=>?_⟩
 obtain ⟨g1,g2,d,rfl,rfl,h2⟩:=hk
 have h2:=all_one.1 h2
 exact all_one.2 fun r'' t1 t2=>h2 r'' (s2 r'' t1 fun b o e=>t2 b o (un_left e)) fun b o e=>t2 b o (un_right d e)
theorem settledC_any (r:Hp) (hT:TabR r) (v:InfV) (i:InfK) (hv:v.key=looseK i) (hf:FitI (looseK i)) (hz:sizeQ (looseK i).m<=5000000) (ho:(encQ v.q).all one?=true):Tri Tryz.prog r 46 [.agg [.bool v.known,.slice v.ea v.ex.length v.ec,.slice v.pa v.pre.length v.pc,.slice v.sa v.suf.length v.sc,.int .i64 v.q.kind,v.q.gv,v.q.sv].toArray] [IC r v] fun w H => ∃ i':InfV,i'.key=settledK (looseK i)/\(encQ i'.q).all one?=true/\w = .agg [.bool i'.known,.slice i'.ea i'.ex.length i'.ec,.slice i'.pa i'.pre.length i'.pc,.slice i'.sa i'.suf.length i'.sc,.int .i64 i'.q.kind,i'.q.gv,i'.q.sv].toArray/\H=[OwnI i']:=by
 have hk:(looseK i).known=false:=by unfold looseK;split<;>rfl
 have hn:¬ (v.known=true/\smallK (rowT v.ex)=true):=fun h=>by
  have h1:v.key.known=true:=h.1
  rw [hv,hk] at h1
  cases h1
 rw [← hv] at hf hz ⊢
 exact Tri.frz fun r' g s1 s2 h=>settledL_any r' (hT.mono s1) v (h r' s1 s2) hf hz ho hn
theorem repeatN_of (r:Hp) (hT:TabR r) (k:Int) (s0 s1 s2 s3:Nat) (kv:Value) (l:List NoV) (mn mx:Int) (lz:Bool) (gr:Int) (x:NoV) (hl:Els r 10 encN kv (x::l)) (hk1:one? kv=true) (hr:NoR r x) (ih:OfT x) (h1:1<=mn) (h2:¬ mx=0) (h3:¬ (mn=1/\mx=1)) (hf0:FitI (ofI x.key)) (hf:FitI (looseK (ofI x.key))) (hz:sizeQ (looseK (ofI x.key)).m<=5000000):Tri Tryz.prog r 29 [.agg [.int .i64 k,.int .u64 s0,.int .u64 s1,.int .u64 s2,.int .u64 s3,kv,.int .i64 mn,.int .i64 mx,.bool lz,.int .i64 gr].toArray] [] fun w H => ∃ u:InfV,u.key=settledK (looseK (ofI x.key))/\(encQ u.q).all one?=true/\w = .agg [.bool u.known,.slice u.ea u.ex.length u.ec,.slice u.pa u.pre.length u.pc,.slice u.sa u.suf.length u.sc,.int .i64 u.q.kind,u.q.gv,u.q.sv].toArray/\H=[OwnI u]:=by
 have hgr:=group_of r hT k s0 s1 s2 s3 kv l mn mx lz gr x hl hk1 hr ih
 clear hl hr ih
 obtain ⟨U,hU⟩ : ∃ U,ofI x.key=U:=⟨_,rfl⟩
 rw [hU] at hgr hf0 hf hz ⊢
 have hlo:=fun (u:InfV) (e:u.key=U) (o:(encQ u.q).all one?=true)=>looseI_any r hT u (by rw [e];exact hf0) o
 have hse:=fun (u v:InfV) (e:u.key=U) (e2:v.key=looseK u.key) (o:(encQ v.q).all one?=true)=>settledC_any r hT v U (by rw [e2,e]) hf hz o
 have h5:¬ mn<1:=by omega
 refine Tri.free2 fun R HR=>?_
 refine ae Tryz.func29 Tryz.ntmps29 ?_
 by_cases h4:mn=1
 · have h6:¬ mx=1:=fun e=>h3 ⟨h4,e⟩
   repeat' (first|((with_reducible apply kx_box);rfl;(exact qcl);intro b1;(refine apk ?_))|((with_reducible apply kx_alloc (E:=40));exact ty_zero;(exact qcl);intro b2;(refine apk ?_))|(refine acl Tryz.func30 ?_;refine acr (hgr) ?_;rintro v' H' ⟨u,hu1,hu2,rfl,rfl⟩;refine apl ?_)|(refine acl Tryz.func36 ?_;refine acr (hlo u hu1 hu2) ?_;rintro v' H' ⟨v,hv1,hv2,hv3,rfl,rfl⟩;refine apl ?_)|(refine acl Tryz.func46 ?_;refine acr (hse u v hu1 hv1 hv3) ?_;rintro v' H' ⟨z,hz1,hz2,rfl,rfl⟩;refine apl ?_)|((with_reducible apply kx_storeN);exact ty_size;rfl;rfl;rfl;(exact qsw);exact encI_one hz2;(exact qst);(refine apk ?_))|exact xf|refine aw0 ?_|(refine ap2 ?_ ?_<;>try intro h)|refine aw1 ?_|(refine abx ?_;intro bb)|(refine abz ?_;intro bz)|(refine ahv ?_;intro v' hv')|(refine aac ?_;intro ac cc)|refine aw2 ?_|(refine ap4 ?_ ?_<;>try intro h)|apply True.intro)
   ((with_reducible apply fp_ret);exact res_W rfl rfl atk ty_agg ty_size rfl)
   exact HR.out _ _ _ [OwnI z] atks ⟨z,hz1,hz2,rfl,rfl⟩
 · repeat' (first|((with_reducible apply kx_box);rfl;(exact qcl);intro b1;(refine apk ?_))|((with_reducible apply kx_alloc (E:=40));exact ty_zero;(exact qcl);intro b2;(refine apk ?_))|(refine acl Tryz.func30 ?_;refine acr (hgr) ?_;rintro v' H' ⟨u,hu1,hu2,rfl,rfl⟩;refine apl ?_)|(refine acl Tryz.func36 ?_;refine acr (hlo u hu1 hu2) ?_;rintro v' H' ⟨v,hv1,hv2,hv3,rfl,rfl⟩;refine apl ?_)|(refine acl Tryz.func46 ?_;refine acr (hse u v hu1 hv1 hv3) ?_;rintro v' H' ⟨z,hz1,hz2,rfl,rfl⟩;refine apl ?_)|((with_reducible apply kx_storeN);exact ty_size;rfl;rfl;rfl;(exact qsw);exact encI_one hz2;(exact qst);(refine apk ?_))|exact xf|refine aw0 ?_|(refine ap2 ?_ ?_<;>try intro h)|refine aw1 ?_|(refine abx ?_;intro bb)|(refine abz ?_;intro bz)|(refine ahv ?_;intro v' hv')|(refine aac ?_;intro ac cc)|refine aw2 ?_|(refine ap4 ?_ ?_<;>try intro h)|apply True.intro)
   ((with_reducible apply fp_ret);exact res_W rfl rfl atk ty_agg ty_size rfl)
   exact HR.out _ _ _ [OwnI z] atks ⟨z,hz1,hz2,rfl,rfl⟩
end Go.Proofs.YteknekiclhnkiaaGreatDoor
