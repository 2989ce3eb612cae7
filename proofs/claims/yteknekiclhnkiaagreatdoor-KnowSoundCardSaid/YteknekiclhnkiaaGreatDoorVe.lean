/- slices.symMergeCmpFunc at structs where one of the two rows has one element: its contract. -/
import Derived.Test.YteknekiclhnkiaaGreatDoorVd
set_option maxHeartbeats 8000000
set_option maxRecDepth 10000
namespace Go.Proofs.YteknekiclhnkiaaGreatDoor
open Go.RowKit Sx
theorem half_w (i j:Nat) (h:i+j<=100000000):IntKind.i64.wrap (((i:Int)+j) / 2 ^ Int.toNat 1)=(((i+j) / 2:Nat):Int):=by
 show IntKind.i64.wrap (((i:Int)+j) / 2 ^ 1)=_
 simp [IntKind.wrap,IntKind.bits,IntKind.signed]
 omega
theorem CmpBy.less {α:Type} {P:Program} {r:Hp} {gf:FuncId} {enc:α->List Value} {key:α->Tx} {xs:List α} (h:CmpBy P r gf enc key xs) {x y:α} (hx:x∈xs) (hy:y∈xs) (hl:key x<key y):Tri P r gf [.agg (enc x).toArray,.agg (enc y).toArray] [] fun w H=>(∃ c:Int,w = .int .i64 c/\c<0)/\H=[]:=(h x hx y hy).mono (by
 rintro w H ⟨⟨c,rfl,hc⟩,rfl⟩
 exact ⟨⟨c,rfl,hc.2 hl⟩,rfl⟩)
theorem CmpBy.more {α:Type} {P:Program} {r:Hp} {gf:FuncId} {enc:α->List Value} {key:α->Tx} {xs:List α} (h:CmpBy P r gf enc key xs) {x y:α} (hx:x∈xs) (hy:y∈xs) (hl:¬ key x<key y):Tri P r gf [.agg (enc x).toArray,.agg (enc y).toArray] [] fun w H=>(∃ c:Int,w = .int .i64 c/\0<=c)/\H=[]:=(h x hx y hy).mono (by
 rintro w H ⟨⟨c,rfl,hc⟩,rfl⟩
 exact ⟨⟨c,rfl,by
  have:¬ c<0:=fun h=>hl (hc.1 h)
  omega⟩,rfl⟩)
theorem symAQ_any (r:Hp) (B c:Nat) (gf:FuncId) (key:QuV->Tx) (xs:List QuV) (n a m b:Nat) (ai mi bi:Int) (hn:xs.length=n) (ha:ai=a) (hm:mi=m) (hb:bi=b) (h1:a+1=m) (h2:m<b) (h3:b<=n) (hl:n<=10000000) (hg:GoesTo Tryz.prog gf) (hone : ∀ x∈xs,(encQ x).all one?=true) (hcmp:CmpBy Tryz.prog r gf encQ key xs) (hu:UpIn key m b xs):Tri Tryz.prog r 159 [.slice (some ⟨B,0,none⟩) n c,.int .i64 ai,.int .i64 mi,.int .i64 bi,.func (.func gf) #[] #[]] [RowC 38 3 (.slice (some ⟨B,0,none⟩) n c) n (xs.flatMap encQ)] fun _ H => ∃ zs,(Part key a b xs zs/\UpIn key a b zs)/\H=[RowC 38 3 (.slice (some ⟨B,0,none⟩) n c) n (zs.flatMap encQ)]:=by
 subst ha hb hm
 refine Tri.free2 fun R HR=>?_
 refine ae Tryz.func159 Tryz.ntmps159 ?_
 repeat' (first|exact xf|refine aw0 ?_|(refine ap2 ?_ ?_<;>try intro h)|refine aw1 ?_|(refine abx ?_;intro bb)|(refine abz ?_;intro bz)|(refine ahv ?_;intro v' hv')|(refine aac ?_;intro ac cc)|refine aw2 ?_|(refine ap4 ?_ ?_<;>try intro h)|apply True.intro)
 refine sw_loop (fun gm t H' => ∃ (i j:Nat),gm=j+1 - i/\(m<=i/\i<=j/\j<=b)/\(∀ h,m<=h->h<i->key (xs.getD h default)<key (xs.getD a default))/\(∀ h,j<=h->h<b->¬ key (xs.getD h default)<key (xs.getD a default))/\(∃ G,Takes [RowC 38 3 (.slice (some ⟨B,0,none⟩) n c) n (xs.flatMap encQ)] H' G)/\Sls t 220 [(0,.slice (some ⟨B,0,none⟩) n c),(1,.int .i64 a),(4,.func (.func gf) #[] #[]),(10,.int .i64 i),(11,.int .i64 j)]) _ ⟨m,b,rfl,⟨by omega,by omega,by omega⟩,fun h h1 h2=>absurd h2 (by omega),fun h h1 h2=>absurd h2 (by omega),⟨_,atks⟩,asls⟩ ?_
 rintro gm t H' ⟨i,j,rfl,hij,hlo,hhi,⟨G,hp⟩,hs'⟩
 revert t;refine sls_all ?_;iterate 215 intro uu'
 refine sw_takeG hp ?_;clear hp
 by_cases hlt:i<j
 · have hw:=half_w i j (by omega)
   obtain ⟨md,hh⟩ : ∃ md,(i+j) / 2=md:=⟨_,rfl⟩
   rw [hh] at hw
   have hh1:i<=md/\md<j:=by omega
   have hm1:xs.getD md default∈xs:=getD_memV (by omega)
   have hm2:xs.getD a default∈xs:=getD_memV (by omega)
   by_cases hlt2:key (xs.getD md default)<key (xs.getD a default)
   · have hc:=CmpBy.less hcmp hm1 hm2 hlt2
     repeat' (first|(rw [hw])|((with_reducible apply sw_lendQ (c:= .region 5 _ _) (A:=RowC 38 3 (.slice (some ⟨B,0,none⟩) n c) n (xs.flatMap encQ)));(with_reducible (exact atk));intro r1 g1 hr1 hg1 hA1;have hE1:Els r1 3 encQ (.slice (some ⟨B,0,none⟩) n c) xs:=⟨fun _=>rfl,by rw [hn];exact hA1.sl hg1⟩;have hc1:=hc.up hr1)|((with_reducible apply sw_draw (id:=5) 11 [(0,true),(1,true),(2,true),(3,true),(4,true),(5,true),(6,true),(7,true),(8,true),(9,false),(10,true)] [] []);kernel_rfl;(exact atks);kernel_rfl;intro r' hl')|((with_reducible apply kx_call (f:=gf) (cap:=[]));exact hg;rfl;rfl;exact (hc1.up hl'.1);(exact atks);rintro v' H' ⟨⟨c9,rfl,hc9⟩,rfl⟩;all_goals ((try simp only [List.nil_append]);(refine apk ?_)))|exact xf|refine aw0 ?_|(refine ap2 ?_ ?_<;>try intro h)|refine aw1 ?_|(refine abx ?_;intro bb)|(refine abz ?_;intro bz)|(refine ahv ?_;intro v' hv')|(refine aac ?_;intro ac cc)|refine aw2 ?_|(refine ap4 ?_ ?_<;>try intro h)|apply True.intro)
     exact ⟨_,by omega,md+1,j,rfl,⟨by omega,by omega,by omega⟩,fun q q1 q2=>(by
      by_cases e:q=md
      · rw [e];exact hlt2
      · exact lt_of_leK' (hu q md q1 (by omega) (by omega) (by omega)) hlt2),hhi,⟨_,atks⟩,asls⟩
   · have hc:=CmpBy.more hcmp hm1 hm2 hlt2
     repeat' (first|(rw [hw])|((with_reducible apply sw_lendQ (c:= .region 5 _ _) (A:=RowC 38 3 (.slice (some ⟨B,0,none⟩) n c) n (xs.flatMap encQ)));(with_reducible (exact atk));intro r1 g1 hr1 hg1 hA1;have hE1:Els r1 3 encQ (.slice (some ⟨B,0,none⟩) n c) xs:=⟨fun _=>rfl,by rw [hn];exact hA1.sl hg1⟩;have hc1:=hc.up hr1)|((with_reducible apply sw_draw (id:=5) 11 [(0,true),(1,true),(2,true),(3,true),(4,true),(5,true),(6,true),(7,true),(8,true),(9,false),(10,true)] [] []);kernel_rfl;(exact atks);kernel_rfl;intro r' hl')|((with_reducible apply kx_call (f:=gf) (cap:=[]));exact hg;rfl;rfl;exact (hc1.up hl'.1);(exact atks);rintro v' H' ⟨⟨c9,rfl,hc9⟩,rfl⟩;all_goals ((try simp only [List.nil_append]);(refine apk ?_)))|exact xf|refine aw0 ?_|(refine ap2 ?_ ?_<;>try intro h)|refine aw1 ?_|(refine abx ?_;intro bb)|(refine abz ?_;intro bz)|(refine ahv ?_;intro v' hv')|(refine aac ?_;intro ac cc)|refine aw2 ?_|(refine ap4 ?_ ?_<;>try intro h)|apply True.intro)
     exact ⟨_,by omega,i,md,rfl,⟨by omega,by omega,by omega⟩,hlo,fun q q1 q2=>(by
      by_cases e:q=md
      · rw [e];exact hlt2
      · exact le_trK hlt2 (hu md q (by omega) (by omega) q2 (by omega))),⟨_,atks⟩,asls⟩
 · obtain rfl:i=j:=by omega
   repeat' (first|exact xf|refine aw0 ?_|(refine ap2 ?_ ?_<;>try intro h)|refine aw1 ?_|(refine abx ?_;intro bb)|(refine abz ?_;intro bz)|(refine ahv ?_;intro v' hv')|(refine aac ?_;intro ac cc)|refine aw2 ?_|(refine ap4 ?_ ?_<;>try intro h)|apply True.intro)
   refine sw_loop (fun gm t H' => ∃ (k:Nat) (zs:List QuV),gm=b+1 - k/\(a<=k/\k+1<=i)/\(Part key a b xs zs)/\(UpBut' key a b k zs)/\(zs.getD k default=xs.getD a default)/\(∀ q,k<q->zs.getD q default=xs.getD q default)/\(∃ G,Takes [RowC 38 3 (.slice (some ⟨B,0,none⟩) n c) n (zs.flatMap encQ)] H' G)/\Sls t 220 [(0,.slice (some ⟨B,0,none⟩) n c),(10,.int .i64 i),(13,.int .i64 k)]) _ ⟨a,xs,rfl,⟨by omega,by omega⟩,Part.refl (by omega) (by omega),(fun p q p1 p2 p3 p4=>hu p q (by omega) p2 p3 (by omega)),rfl,fun _ _=>rfl,⟨_,atks⟩,asls⟩ ?_
   rintro gm t H' ⟨k,zs,rfl,hk,hp,hub,hkx,hks,⟨G,hp⟩,hs'⟩
   revert t;refine sls_all ?_;iterate 217 intro uu'
   refine sw_takeG hp ?_;clear hp
   have hzl:zs.length=n:=by rw [hp.len];exact hn
   by_cases hki:k+1<i
   · have hm1:zs.getD k default∈xs:=hp.mem.1 (getD_memV (by omega))
     have hm2:zs.getD (k+1) default∈xs:=hp.mem.1 (getD_memV (by omega))
     have hz1:=hone _ hm1
     have hz2:=hone _ hm2
     have e1:((k:Int)+1).toNat=k+1:=by omega
     have e2:((k:Int)).toNat=k:=by omega
     have hlk:key (zs.getD (k+1) default)<key (zs.getD k default):=by rw [hkx,hks (k+1) (by omega)];exact hlo (k+1) (by omega) hki
     have hpn:Part key a b zs (swap zs k (k+1)):=part_swap (by omega) (by omega) (by omega) hlk
     have hun:UpBut' key a b (k+1) (swap zs k (k+1)):=hub.step (by omega) (by omega) (by omega) hlk
     have hkx2:(swap zs k (k+1)).getD (k+1) default=xs.getD a default:=by rw [swap_get (by omega),if_pos rfl];exact hkx
     have hks2 : ∀ q,k+1<q->q<n->(swap zs k (k+1)).getD q default=xs.getD q default:=fun q hq hqn=>by rw [swap_get (by omega),if_neg (by omega),if_neg (by omega)];exact hks q (by omega)
     unfold swap at hpn hun hkx2 hks2
     repeat' (first|(rw [e1])|(rw [e2])|((with_reducible apply sw_drawT (id:=11) 18 (Pl.seg [(0,true),(1,true),(2,true),(3,true),(4,true),(5,true),(6,true),(7,true),(8,true),(10,true),(11,true),(12,true)] (Pl.two 9 13 (Pl.seg [(13,false),(14,true),(15,false),(16,true),(17,false)] Pl.leaf) (Pl.seg [(9,false),(14,true),(15,false),(16,true),(17,false)] Pl.leaf))) (List.replicate 18 true++List.replicate 0 false).toArray [] []);kernel_rfl;(exact atks);kernel_rfl;intro r' hl')|(first|((with_reducible apply pi_pur);rfl;(exact qwt);(with_reducible apply pu_ixF);rfl;rfl;(omega);(refine apk ?_))|((with_reducible apply swo_pur);(with_reducible apply pu_ixF);rfl;rfl;(omega);(refine apk ?_)))|((with_reducible apply kx_ldCE (ia:=inferInstance) (enc:=encQ));exact fun _=>rfl;rfl;(exact atk);(omega);(refine apk ?_))|((with_reducible apply kx_stE (sz:=3) (enc:=encQ));exact fun _=>rfl;rfl;exact ty_size;rfl;rfl;(exact atk);assumption;(first|omega|(rw [List.length_set];omega));(refine apk ?_))|exact xf|refine aw0 ?_|(refine ap2 ?_ ?_<;>try intro h)|refine aw1 ?_|(refine abx ?_;intro bb)|(refine abz ?_;intro bz)|(refine ahv ?_;intro v' hv')|(refine aac ?_;intro ac cc)|refine aw2 ?_|(refine ap4 ?_ ?_<;>try intro h)|apply True.intro)
     all_goals exact ⟨_,by omega,k+1,_,rfl,⟨by omega,by omega⟩,hp.trans hpn,hun,hkx2,(fun q hq=>(by
      by_cases hqn:q<n
      · exact hks2 q hq hqn
      · rw [getD_over (by rw [List.length_set,List.length_set];omega),getD_over (by omega)])),⟨_,atks⟩,asls⟩
   · repeat' (first|exact xf|refine aw0 ?_|(refine ap2 ?_ ?_<;>try intro h)|refine aw1 ?_|(refine abx ?_;intro bb)|(refine abz ?_;intro bz)|(refine ahv ?_;intro v' hv')|(refine aac ?_;intro ac cc)|refine aw2 ?_|(refine ap4 ?_ ?_<;>try intro h)|apply True.intro)
     ((with_reducible apply fp_ret);exact res_0 rfl)
     exact HR.out _ _ _ [_] atks ⟨zs,⟨hp,hub.stop fun q q1 q2=>by rw [hkx,hks q q1];exact hhi q (by omega) q2⟩,rfl⟩
theorem symBQ_any (r:Hp) (B c:Nat) (gf:FuncId) (key:QuV->Tx) (xs:List QuV) (n a m b:Nat) (ai mi bi:Int) (hn:xs.length=n) (ha:ai=a) (hm:mi=m) (hb:bi=b) (h1:a+1<m) (h2:m+1=b) (h3:b<=n) (hl:n<=10000000) (hg:GoesTo Tryz.prog gf) (hone : ∀ x∈xs,(encQ x).all one?=true) (hcmp:CmpBy Tryz.prog r gf encQ key xs) (hu:UpIn key a m xs):Tri Tryz.prog r 159 [.slice (some ⟨B,0,none⟩) n c,.int .i64 ai,.int .i64 mi,.int .i64 bi,.func (.func gf) #[] #[]] [RowC 38 3 (.slice (some ⟨B,0,none⟩) n c) n (xs.flatMap encQ)] fun _ H => ∃ zs,(Part key a b xs zs/\UpIn key a b zs)/\H=[RowC 38 3 (.slice (some ⟨B,0,none⟩) n c) n (zs.flatMap encQ)]:=by
 subst ha hb hm
 refine Tri.free2 fun R HR=>?_
 refine ae Tryz.func159 Tryz.ntmps159 ?_
 repeat' (first|exact xf|refine aw0 ?_|(refine ap2 ?_ ?_<;>try intro h)|refine aw1 ?_|(refine abx ?_;intro bb)|(refine abz ?_;intro bz)|(refine ahv ?_;intro v' hv')|(refine aac ?_;intro ac cc)|refine aw2 ?_|(refine ap4 ?_ ?_<;>try intro h)|apply True.intro)
 refine sw_loop (fun gm t H' => ∃ (i j:Nat),gm=j+1 - i/\(a<=i/\i<=j/\j<=m)/\(∀ h,a<=h->h<i->¬ key (xs.getD m default)<key (xs.getD h default))/\(∀ h,j<=h->h<m->key (xs.getD m default)<key (xs.getD h default))/\(∃ G,Takes [RowC 38 3 (.slice (some ⟨B,0,none⟩) n c) n (xs.flatMap encQ)] H' G)/\Sls t 220 [(0,.slice (some ⟨B,0,none⟩) n c),(2,.int .i64 m),(4,.func (.func gf) #[] #[]),(14,.int .i64 i),(15,.int .i64 j)]) _ ⟨a,m,rfl,⟨by omega,by omega,by omega⟩,fun h h1 h2=>absurd h2 (by omega),fun h h1 h2=>absurd h2 (by omega),⟨_,atks⟩,asls⟩ ?_
 rintro gm t H' ⟨i,j,rfl,hij,hlo,hhi,⟨G,hp⟩,hs'⟩
 revert t;refine sls_all ?_;iterate 215 intro uu'
 refine sw_takeG hp ?_;clear hp
 by_cases hlt:i<j
 · have hw:=half_w i j (by omega)
   obtain ⟨md,hh⟩ : ∃ md,(i+j) / 2=md:=⟨_,rfl⟩
   rw [hh] at hw
   have hh1:i<=md/\md<j:=by omega
   have hm1:xs.getD md default∈xs:=getD_memV (by omega)
   have hm2:xs.getD m default∈xs:=getD_memV (by omega)
   by_cases hlt2:key (xs.getD m default)<key (xs.getD md default)
   · have hc:=CmpBy.less hcmp hm2 hm1 hlt2
     repeat' (first|(rw [hw])|((with_reducible apply sw_lendQ (c:= .region 17 _ _) (A:=RowC 38 3 (.slice (some ⟨B,0,none⟩) n c) n (xs.flatMap encQ)));(with_reducible (exact atk));intro r1 g1 hr1 hg1 hA1;have hE1:Els r1 3 encQ (.slice (some ⟨B,0,none⟩) n c) xs:=⟨fun _=>rfl,by rw [hn];exact hA1.sl hg1⟩;have hc1:=hc.up hr1)|((with_reducible apply sw_draw (id:=17) 12 [(0,true),(1,true),(2,true),(3,true),(4,true),(5,true),(6,true),(7,true),(8,true),(9,false),(10,true),(11,true)] [] []);kernel_rfl;(exact atks);kernel_rfl;intro r' hl')|((with_reducible apply kx_call (f:=gf) (cap:=[]));exact hg;rfl;rfl;exact (hc1.up hl'.1);(exact atks);rintro v' H' ⟨⟨c9,rfl,hc9⟩,rfl⟩;all_goals ((try simp only [List.nil_append]);(refine apk ?_)))|exact xf|refine aw0 ?_|(refine ap2 ?_ ?_<;>try intro h)|refine aw1 ?_|(refine abx ?_;intro bb)|(refine abz ?_;intro bz)|(refine ahv ?_;intro v' hv')|(refine aac ?_;intro ac cc)|refine aw2 ?_|(refine ap4 ?_ ?_<;>try intro h)|apply True.intro)
     exact ⟨_,by omega,i,md,rfl,⟨by omega,by omega,by omega⟩,hlo,fun q q1 q2=>(by
      by_cases e:q=md
      · rw [e];exact hlt2
      · exact lt_of_leK hlt2 (hu md q (by omega) (by omega) q2 (by omega))),⟨_,atks⟩,asls⟩
   · have hc:=CmpBy.more hcmp hm2 hm1 hlt2
     repeat' (first|(rw [hw])|((with_reducible apply sw_lendQ (c:= .region 17 _ _) (A:=RowC 38 3 (.slice (some ⟨B,0,none⟩) n c) n (xs.flatMap encQ)));(with_reducible (exact atk));intro r1 g1 hr1 hg1 hA1;have hE1:Els r1 3 encQ (.slice (some ⟨B,0,none⟩) n c) xs:=⟨fun _=>rfl,by rw [hn];exact hA1.sl hg1⟩;have hc1:=hc.up hr1)|((with_reducible apply sw_draw (id:=17) 12 [(0,true),(1,true),(2,true),(3,true),(4,true),(5,true),(6,true),(7,true),(8,true),(9,false),(10,true),(11,true)] [] []);kernel_rfl;(exact atks);kernel_rfl;intro r' hl')|((with_reducible apply kx_call (f:=gf) (cap:=[]));exact hg;rfl;rfl;exact (hc1.up hl'.1);(exact atks);rintro v' H' ⟨⟨c9,rfl,hc9⟩,rfl⟩;all_goals ((try simp only [List.nil_append]);(refine apk ?_)))|exact xf|refine aw0 ?_|(refine ap2 ?_ ?_<;>try intro h)|refine aw1 ?_|(refine abx ?_;intro bb)|(refine abz ?_;intro bz)|(refine ahv ?_;intro v' hv')|(refine aac ?_;intro ac cc)|refine aw2 ?_|(refine ap4 ?_ ?_<;>try intro h)|apply True.intro)
     exact ⟨_,by omega,md+1,j,rfl,⟨by omega,by omega,by omega⟩,(fun q q1 q2=>(by
      by_cases e:q=md
      · rw [e];exact hlt2
      · exact le_trK (hu q md q1 (by omega) (by omega) (by omega)) hlt2)),hhi,⟨_,atks⟩,asls⟩
 · obtain rfl:i=j:=by omega
   repeat' (first|exact xf|refine aw0 ?_|(refine ap2 ?_ ?_<;>try intro h)|refine aw1 ?_|(refine abx ?_;intro bb)|(refine abz ?_;intro bz)|(refine ahv ?_;intro v' hv')|(refine aac ?_;intro ac cc)|refine aw2 ?_|(refine ap4 ?_ ?_<;>try intro h)|apply True.intro)
   refine sw_loop (fun gm t H' => ∃ (k:Nat) (zs:List QuV),gm=k+1/\(i<=k/\k<=m)/\(Part key a b xs zs)/\(UpBut key a b k zs)/\(zs.getD k default=xs.getD m default)/\(∀ q,q<k->zs.getD q default=xs.getD q default)/\(∃ G,Takes [RowC 38 3 (.slice (some ⟨B,0,none⟩) n c) n (zs.flatMap encQ)] H' G)/\Sls t 220 [(0,.slice (some ⟨B,0,none⟩) n c),(14,.int .i64 i),(17,.int .i64 k)]) _ ⟨m,xs,rfl,⟨by omega,by omega⟩,Part.refl (by omega) (by omega),(fun p q p1 p2 p3 p4=>hu p q p1 p2 (by omega) (by omega)),rfl,fun _ _=>rfl,⟨_,atks⟩,asls⟩ ?_
   rintro gm t H' ⟨k,zs,rfl,hk,hp,hub,hkx,hks,⟨G,hp⟩,hs'⟩
   revert t;refine sls_all ?_;iterate 217 intro uu'
   refine sw_takeG hp ?_;clear hp
   have hzl:zs.length=n:=by rw [hp.len];exact hn
   by_cases hki:i<k
   · obtain ⟨k,rfl⟩ : ∃ k',k=k'+1:=⟨k - 1,by omega⟩
     have hm1:zs.getD k default∈xs:=hp.mem.1 (getD_memV (by omega))
     have hm2:zs.getD (k+1) default∈xs:=hp.mem.1 (getD_memV (by omega))
     have hz1:=hone _ hm1
     have hz2:=hone _ hm2
     have e1:(((k+1:Nat):Int) - 1).toNat=k:=by omega
     have e2:(((k+1:Nat):Int)).toNat=k+1:=by omega
     have hlk:key (zs.getD (k+1) default)<key (zs.getD k default):=by rw [hkx,hks k (by omega)];exact hhi k (by omega) (by omega)
     have hpn:Part key a b zs (swap zs k (k+1)):=part_swap (by omega) (by omega) (by omega) hlk
     have hun:UpBut key a b k (swap zs k (k+1)):=UpBut.step hub (by omega) (by omega) (by omega) hlk
     have hkx2:(swap zs k (k+1)).getD k default=xs.getD m default:=by rw [swap_get (by omega),if_neg (by omega),if_pos rfl];exact hkx
     have hks2 : ∀ q,q<k->(swap zs k (k+1)).getD q default=xs.getD q default:=fun q hq=>by rw [swap_get (by omega),if_neg (by omega),if_neg (by omega)];exact hks q (by omega)
     rw [swap_comm zs (by omega) (by omega)] at hpn hun hkx2 hks2
     unfold swap at hpn hun hkx2 hks2
     repeat' (first|(rw [e1])|(rw [e2])|((with_reducible apply sw_drawT (id:=23) 18 (Pl.seg [(0,true),(1,true),(2,true),(3,true),(4,true),(5,true),(6,true),(7,true),(8,true),(10,true),(11,true),(12,true)] (Pl.two 9 13 (Pl.seg [(13,false),(14,true),(15,false),(16,true),(17,false)] Pl.leaf) (Pl.seg [(9,false),(14,true),(15,false),(16,true),(17,false)] Pl.leaf))) (List.replicate 18 true++List.replicate 0 false).toArray [] []);kernel_rfl;(exact atks);kernel_rfl;intro r' hl')|(first|((with_reducible apply pi_pur);rfl;(exact qwt);(with_reducible apply pu_ixF);rfl;rfl;(omega);(refine apk ?_))|((with_reducible apply swo_pur);(with_reducible apply pu_ixF);rfl;rfl;(omega);(refine apk ?_)))|((with_reducible apply kx_ldCE (ia:=inferInstance) (enc:=encQ));exact fun _=>rfl;rfl;(exact atk);(omega);(refine apk ?_))|((with_reducible apply kx_stE (sz:=3) (enc:=encQ));exact fun _=>rfl;rfl;exact ty_size;rfl;rfl;(exact atk);assumption;(first|omega|(rw [List.length_set];omega));(refine apk ?_))|exact xf|refine aw0 ?_|(refine ap2 ?_ ?_<;>try intro h)|refine aw1 ?_|(refine abx ?_;intro bb)|(refine abz ?_;intro bz)|(refine ahv ?_;intro v' hv')|(refine aac ?_;intro ac cc)|refine aw2 ?_|(refine ap4 ?_ ?_<;>try intro h)|apply True.intro)
     all_goals exact ⟨_,by omega,k,_,rfl,⟨by omega,by omega⟩,hp.trans hpn,hun,hkx2,hks2,⟨_,atks⟩,asls⟩
   · obtain rfl:i=k:=by omega
     repeat' (first|exact xf|refine aw0 ?_|(refine ap2 ?_ ?_<;>try intro h)|refine aw1 ?_|(refine abx ?_;intro bb)|(refine abz ?_;intro bz)|(refine ahv ?_;intro v' hv')|(refine aac ?_;intro ac cc)|refine aw2 ?_|(refine ap4 ?_ ?_<;>try intro h)|apply True.intro)
     ((with_reducible apply fp_ret);exact res_0 rfl)
     exact HR.out _ _ _ [_] atks ⟨zs,⟨hp,UpBut.stop hub (by
      by_cases e:i=a
      · exact .inl e
      · exact .inr ⟨by omega,by rw [hkx,hks (i - 1) (by omega)];exact hlo (i - 1) (by omega) (by omega)⟩)⟩,rfl⟩
end Go.Proofs.YteknekiclhnkiaaGreatDoor
