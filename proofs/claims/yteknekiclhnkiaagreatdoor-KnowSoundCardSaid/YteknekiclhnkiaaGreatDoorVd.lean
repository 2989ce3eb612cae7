/- slices.insertionSortCmpFunc at structs: its contract. -/
import Derived.Test.YteknekiclhnkiaaGreatDoorVb
import Derived.Test.YteknekiclhnkiaaGreatDoorUe
set_option maxHeartbeats 4000000
set_option maxRecDepth 10000
namespace Go.Proofs.YteknekiclhnkiaaGreatDoor
open Go.RowKit Sx
theorem swapRQ_any (r:Hp) (B c:Nat) (fv:Value) (xs:List QuV) (n a b m:Nat) (ai bi mi:Int) (hn:xs.length=n) (ha:ai=a) (hb:bi=b) (hm:mi=m) (h1:a+m<=b) (h2:b+m<=xs.length) (hl:xs.length<=10000000) (hone : ∀ x∈xs,(encQ x).all one?=true):Tri Tryz.prog r 181 [.slice (some ⟨B,0,none⟩) n c,.int .i64 ai,.int .i64 bi,.int .i64 mi,fv] [RowC 38 3 (.slice (some ⟨B,0,none⟩) n c) n (xs.flatMap encQ)] fun _ H=>H=[RowC 38 3 (.slice (some ⟨B,0,none⟩) n c) n ((swr a b m xs).flatMap encQ)]:=by
 subst ha hb hm
 refine Tri.free2 fun R HR=>?_
 refine ae Tryz.func181 Tryz.ntmps181 ?_
 repeat' (first|refine aw0m ?_|(refine ap2 ?_ ?_<;>try intro h)|refine aw1m ?_|(refine abx ?_;intro bb)|(refine abz ?_;intro bz)|(refine ahv ?_;intro v' hv')|(refine aac ?_;intro ac cc)|refine aw2 ?_|(refine ap4 ?_ ?_<;>try intro h)|apply True.intro)
 refine sw_loop (fun gm t H' => ∃ k:Nat,gm=m+1 - k/\(k<=m)/\(∃ G,Takes [RowC 38 3 (.slice (some ⟨B,0,none⟩) n c) n ((swr a b k xs).flatMap encQ)] H' G)/\Sls t 38 [(0,.slice (some ⟨B,0,none⟩) n c),(1,.int .i64 a),(2,.int .i64 b),(3,.int .i64 m),(10,.int .i64 k)]) _ ⟨0,rfl,Nat.zero_le _,⟨_,atks⟩,asls⟩ ?_
 rintro gm t H' ⟨k,rfl,hk,⟨G,hp⟩,hs'⟩
 revert t;refine sls_all ?_;iterate 33 intro uu'
 refine sw_takeG hp ?_;clear hp
 by_cases hlt:k<m
 · have hmem : ∀ x,x∈swr a b k xs->x∈xs:=fun x=>swr_mem (by omega) (by omega)
   have hst:swr a b (k+1) xs=swap (swr a b k xs) (a+k) (b+k):=rfl
   have hYl:=swr_len a b k xs
   obtain ⟨Y,hY⟩ : ∃ Y,swr a b k xs=Y:=⟨_,rfl⟩
   rw [hY] at hst hmem hYl ⊢
   have e1:((a:Int)+k).toNat=a+k:=by omega
   have e2:((b:Int)+k).toNat=b+k:=by omega
   have hz1:=hone _ (hmem _ (getD_memV (l:=Y) (k:=a+k) (by omega)))
   have hz2:=hone _ (hmem _ (getD_memV (l:=Y) (k:=b+k) (by omega)))
   unfold swap at hst
   repeat' (first|(rw [e1])|(rw [e2])|((with_reducible apply sw_drawT (id:=3) 24 (Pl.seg [(0,true),(1,true),(2,true),(3,true),(4,true),(5,true),(6,true),(7,true),(8,true),(9,true),(10,true),(11,true),(12,true),(14,true),(15,true),(16,true),(17,true),(18,true)] (Pl.two 13 19 (Pl.seg [(19,false),(20,true),(21,false),(22,true),(23,false)] Pl.leaf) (Pl.seg [(13,false),(20,true),(21,false),(22,true),(23,false)] Pl.leaf))) (List.replicate 24 true++List.replicate 0 false).toArray [] []);kernel_rfl;(exact atks);kernel_rfl;intro r' hl')|(first|((with_reducible apply pi_pur);rfl;(exact qwt);(with_reducible apply pu_ixF);rfl;rfl;(omega);(refine apk ?_))|((with_reducible apply swo_pur);(with_reducible apply pu_ixF);rfl;rfl;(omega);(refine apk ?_)))|((with_reducible apply kx_ldCE (ia:=inferInstance) (enc:=encQ));exact fun _=>rfl;rfl;(exact atk);(omega);(refine apk ?_))|((with_reducible apply kx_stE (sz:=3) (enc:=encQ));exact fun _=>rfl;rfl;exact ty_size;rfl;rfl;(exact atk);assumption;(first|omega|(rw [List.length_set];omega));(refine apk ?_))|exact xf|refine aw0 ?_|(refine ap2 ?_ ?_<;>try intro h)|refine aw1 ?_|(refine abx ?_;intro bb)|(refine abz ?_;intro bz)|(refine ahv ?_;intro v' hv')|(refine aac ?_;intro ac cc)|refine aw2 ?_|(refine ap4 ?_ ?_<;>try intro h)|apply True.intro)
   all_goals exact ⟨_,by omega,k+1,rfl,by omega,⟨_,by rw [hst];exact atks⟩,asls⟩
 · obtain rfl:k=m:=by omega
   repeat' (first|exact xf|refine aw0 ?_|(refine ap2 ?_ ?_<;>try intro h)|refine aw1 ?_|(refine abx ?_;intro bb)|(refine abz ?_;intro bz)|(refine ahv ?_;intro v' hv')|(refine aac ?_;intro ac cc)|refine aw2 ?_|(refine ap4 ?_ ?_<;>try intro h)|apply True.intro)
   ((with_reducible apply fp_end);exact res_0 rfl)
   exact HR.out _ _ _ [_] atks rfl
theorem rotateQ_any (r:Hp) (B c:Nat) (fv:Value) (xs:List QuV) (n a m b:Nat) (ai mi bi:Int) (hn:xs.length=n) (ha:ai=a) (hm:mi=m) (hb:bi=b) (h1:a<m) (h2:m<b) (h3:b<=xs.length) (hl:xs.length<=10000000) (hone : ∀ x∈xs,(encQ x).all one?=true):Tri Tryz.prog r 174 [.slice (some ⟨B,0,none⟩) n c,.int .i64 ai,.int .i64 mi,.int .i64 bi,fv] [RowC 38 3 (.slice (some ⟨B,0,none⟩) n c) n (xs.flatMap encQ)] fun _ H=>H=[RowC 38 3 (.slice (some ⟨B,0,none⟩) n c) n ((rot a m b xs).flatMap encQ)]:=by
 subst ha hb hm
 refine Tri.free2 fun R HR=>?_
 refine ae Tryz.func174 Tryz.ntmps174 ?_
 repeat' (first|refine aw0m ?_|(refine ap2 ?_ ?_<;>try intro h)|refine aw1m ?_|(refine abx ?_;intro bb)|(refine abz ?_;intro bz)|(refine ahv ?_;intro v' hv')|(refine aac ?_;intro ac cc)|refine aw2 ?_|(refine ap4 ?_ ?_<;>try intro h)|apply True.intro)
 refine sw_loop (fun gm t H' => ∃ (i j:Nat) (ys:List QuV),gm=i+j/\(0<i/\i<=m)/\(0<j/\m+j<=xs.length)/\(rot (m - i) m (m+j) ys=rot a m b xs)/\(ys.length=n)/\(∀ x∈ys,(encQ x).all one?=true)/\(∃ G,Takes [RowC 38 3 (.slice (some ⟨B,0,none⟩) n c) n (ys.flatMap encQ)] H' G)/\Sls t 58 [(0,.slice (some ⟨B,0,none⟩) n c),(2,.int .i64 m),(4,fv),(10,.int .i64 i),(11,.int .i64 j)]) _ ⟨m - a,b - m,xs,rfl,⟨by omega,by omega⟩,⟨by omega,by omega⟩,by rw [show m - (m - a)=a by omega,show m+(b - m)=b by omega],hn,hone,⟨_,atks⟩,asls⟩ ?_
 rintro gm t H' ⟨i,j,ys,rfl,hi,hj,hr,hyl,ho,⟨G,hp⟩,hs'⟩
 revert t;refine sls_all ?_;iterate 53 intro uu'
 refine sw_takeG hp ?_;clear hp
 by_cases hij:i=j
 · subst hij
   have hlast:=rot_last (i:=i) (m:=m) (xs:=ys) (by omega) (by omega)
   have hc:=swapRQ_any r B c fv ys n (m - i) m i ((m:Int) - i) m i hyl (by omega) rfl rfl (by omega) (by omega) (by omega) ho
   repeat' (first|(refine acl Tryz.func181 ?_;refine acr (hc) ?_;rintro v' H' rfl;all_goals refine apl ?_)|exact xf|refine aw0 ?_|(refine ap2 ?_ ?_<;>try intro h)|refine aw1 ?_|(refine abx ?_;intro bb)|(refine abz ?_;intro bz)|(refine ahv ?_;intro v' hv')|(refine aac ?_;intro ac cc)|refine aw2 ?_|(refine ap4 ?_ ?_<;>try intro h)|apply True.intro)
   ((with_reducible apply fp_end);exact res_0 rfl)
   exact HR.out _ _ _ [_] atks (by rw [hlast,hr])
 · by_cases hgt:j<i
   · have hc:=swapRQ_any r B c fv ys n (m - i) m j ((m:Int) - i) m j hyl (by omega) rfl rfl (by omega) (by omega) (by omega) ho
     repeat' (first|(refine acl Tryz.func181 ?_;refine acr (hc) ?_;rintro v' H' rfl;all_goals refine apl ?_)|exact xf|refine aw0 ?_|(refine ap2 ?_ ?_<;>try intro h)|refine aw1 ?_|(refine abx ?_;intro bb)|(refine abz ?_;intro bz)|(refine ahv ?_;intro v' hv')|(refine aac ?_;intro ac cc)|refine aw2 ?_|(refine ap4 ?_ ?_<;>try intro h)|apply True.intro)
     exact ⟨_,by omega,i - j,j,swr (m - i) m j ys,rfl,⟨by omega,by omega⟩,hj,by rw [rot_step1 hgt (by omega) (by omega)];exact hr,by rw [swr_len];exact hyl,fun x hx=>ho x (swr_mem (by omega) (by omega) hx),⟨_,atks⟩,asls⟩
   · have hc:=swapRQ_any r B c fv ys n (m - i) (m+j - i) i ((m:Int) - i) ((m:Int)+j - i) i hyl (by omega) (by omega) rfl (by omega) (by omega) (by omega) ho
     repeat' (first|(refine acl Tryz.func181 ?_;refine acr (hc) ?_;rintro v' H' rfl;all_goals refine apl ?_)|exact xf|refine aw0 ?_|(refine ap2 ?_ ?_<;>try intro h)|refine aw1 ?_|(refine abx ?_;intro bb)|(refine abz ?_;intro bz)|(refine ahv ?_;intro v' hv')|(refine aac ?_;intro ac cc)|refine aw2 ?_|(refine ap4 ?_ ?_<;>try intro h)|apply True.intro)
     exact ⟨_,by omega,i,j - i,swr (m - i) (m+j - i) i ys,rfl,hi,⟨by omega,by omega⟩,by rw [rot_step2 (by omega) (by omega) (by omega)];exact hr,by rw [swr_len];exact hyl,fun x hx=>ho x (swr_mem (by omega) (by omega) hx),⟨_,atks⟩,asls⟩
theorem insertQ_any (r:Hp) (B c:Nat) (gf:FuncId) (key:QuV->Tx) (xs:List QuV) (n a b:Nat) (ai bi:Int) (hn:xs.length=n) (ha:ai=a) (hb:bi=b) (h1:a<=b) (h2:b<=n) (hl:n<=10000000) (hg:GoesTo Tryz.prog gf) (hone : ∀ x∈xs,(encQ x).all one?=true) (hcmp:CmpBy Tryz.prog r gf encQ key xs):Tri Tryz.prog r 158 [.slice (some ⟨B,0,none⟩) n c,.int .i64 ai,.int .i64 bi,.func (.func gf) #[] #[]] [RowC 38 3 (.slice (some ⟨B,0,none⟩) n c) n (xs.flatMap encQ)] fun _ H => ∃ zs,(Part key a b xs zs/\UpIn key a b zs)/\H=[RowC 38 3 (.slice (some ⟨B,0,none⟩) n c) n (zs.flatMap encQ)]:=by
 subst ha hb
 refine Tri.free2 fun R HR=>?_
 refine ae Tryz.func158 Tryz.ntmps158 ?_
 repeat' (first|refine aw0m ?_|(refine ap2 ?_ ?_<;>try intro h)|refine aw1m ?_|(refine abx ?_;intro bb)|(refine abz ?_;intro bz)|(refine ahv ?_;intro v' hv')|(refine aac ?_;intro ac cc)|refine aw2 ?_|(refine ap4 ?_ ?_<;>try intro h)|apply True.intro)
 refine sw_loop (fun gm t H' => ∃ (i:Nat) (ys:List QuV),gm=b+1 - i/\(a+1<=i/\(i<=b\/i=a+1))/\(Part key a b xs ys)/\(UpIn key a i ys)/\(∃ G,Takes [RowC 38 3 (.slice (some ⟨B,0,none⟩) n c) n (ys.flatMap encQ)] H' G)/\Sls t 53 [(0,.slice (some ⟨B,0,none⟩) n c),(1,.int .i64 a),(2,.int .i64 b),(3,.func (.func gf) #[] #[]),(8,.int .i64 i)]) _ ⟨a+1,xs,rfl,⟨by omega,.inr rfl⟩,Part.refl h1 (by omega),UpIn.one (by omega),⟨_,atks⟩,asls⟩ ?_
 rintro gm t H' ⟨i,ys,rfl,hi,hp,hu,⟨G,hp⟩,hs'⟩
 revert t;refine sls_all ?_;iterate 48 intro uu'
 refine sw_takeG hp ?_;clear hp
 have hyl:ys.length=n:=by rw [hp.len];exact hn
 by_cases hlt:i<b
 · repeat' (first|exact xf|refine aw0 ?_|(refine ap2 ?_ ?_<;>try intro h)|refine aw1 ?_|(refine abx ?_;intro bb)|(refine abz ?_;intro bz)|(refine ahv ?_;intro v' hv')|(refine aac ?_;intro ac cc)|refine aw2 ?_|(refine ap4 ?_ ?_<;>try intro h)|apply True.intro)
   refine sw_loop (fun gm t H' => ∃ (j:Nat) (zs:List QuV),gm=j+1/\(a<=j/\j<=i)/\(Part key a b xs zs)/\(UpBut key a (i+1) j zs)/\(∃ G,Takes [RowC 38 3 (.slice (some ⟨B,0,none⟩) n c) n (zs.flatMap encQ)] H' G)/\Sls t 53 [(0,.slice (some ⟨B,0,none⟩) n c),(1,.int .i64 a),(2,.int .i64 b),(3,.func (.func gf) #[] #[]),(8,.int .i64 i),(9,.int .i64 j)]) _ ⟨i,ys,rfl,⟨by omega,by omega⟩,hp,UpBut.start hu (by omega),⟨_,atks⟩,asls⟩ ?_
   rintro gm t H' ⟨j,zs,rfl,hj,hpz,huz,⟨G,hp⟩,hs'⟩
   revert t;refine sls_all ?_;iterate 47 intro uu'
   refine sw_takeG hp ?_;clear hp
   have hzl:zs.length=n:=by rw [hpz.len];exact hn
   by_cases haj:a<j
   · have hm1:zs.getD j default∈xs:=hpz.mem.1 (getD_memV (by omega))
     have hm2:zs.getD (j - 1) default∈xs:=hpz.mem.1 (getD_memV (by omega))
     have hz1:=hone _ hm1
     have hz2:=hone _ hm2
     have hc0:=hcmp _ hm1 _ hm2
     have e1:((j:Int) - 1).toNat=j - 1:=by omega
     have e2:((j:Int)).toNat=j:=by omega
     have e3:((j:Int) - 1)=((j - 1:Nat):Int):=by omega
     by_cases hlt2:key (zs.getD j default)<key (zs.getD (j - 1) default)
     · have hc:Tri Tryz.prog r gf [.agg (encQ (zs.getD j default)).toArray,.agg (encQ (zs.getD (j - 1) default)).toArray] [] fun w H=>(∃ c:Int,w = .int .i64 c/\c<0)/\H=[]:=hc0.mono (by
        rintro w H ⟨⟨c,rfl,hc⟩,rfl⟩
        exact ⟨⟨c,rfl,hc.2 hlt2⟩,rfl⟩)
       clear hc0
       have hsw:(zs.set j (zs.getD (j - 1) default)).set (j - 1) (zs.getD j default)=swap zs (j - 1) (j - 1+1):=by
        rw [swap_comm zs (by omega) (by omega),show j - 1+1=j by omega];rfl
       have hpn:Part key a b zs (swap zs (j - 1) (j - 1+1)):=part_swap (by omega) (by omega) (by omega) (by rw [show j - 1+1=j by omega];exact hlt2)
       have hun:UpBut key a (i+1) (j - 1) (swap zs (j - 1) (j - 1+1)):=UpBut.step (by rw [show j - 1+1=j by omega];exact huz) (by omega) (by omega) (by omega) (by rw [show j - 1+1=j by omega];exact hlt2)
       rw [← hsw] at hpn hun
       repeat' (first|(rw [e1])|(rw [e2])|((with_reducible apply sw_lendQ (c:= .region 4 _ _) (A:=RowC 38 3 (.slice (some ⟨B,0,none⟩) n c) n (zs.flatMap encQ)));(with_reducible (exact atk));intro r1 g1 hr1 hg1 hA1;have hE1:Els r1 3 encQ (.slice (some ⟨B,0,none⟩) n c) zs:=⟨fun _=>rfl,by rw [hzl];exact hA1.sl hg1⟩;have hc1:=hc.up hr1)|((with_reducible apply sw_draw (id:=4) 17 [(0,true),(1,true),(2,true),(3,true),(4,true),(5,true),(6,true),(7,true),(8,true),(9,true),(10,true),(11,true),(12,true),(13,true),(14,false),(15,true),(16,true)] [] []);kernel_rfl;(exact atks);kernel_rfl;intro r' hl')|((with_reducible apply sw_drawT (id:=6) 18 (Pl.seg [(0,true),(1,true),(2,true),(3,true),(4,true),(5,true),(6,true),(7,true),(8,true),(10,true),(11,true),(12,true)] (Pl.two 9 13 (Pl.seg [(13,false),(14,true),(15,false),(16,true),(17,false)] Pl.leaf) (Pl.seg [(9,false),(14,true),(15,false),(16,true),(17,false)] Pl.leaf))) (List.replicate 18 true++List.replicate 0 false).toArray [] []);kernel_rfl;(exact atks);kernel_rfl;intro r' hl')|(first|((with_reducible apply pi_pur);rfl;(exact qwt);(with_reducible apply pu_ixF);rfl;rfl;(omega);(refine apk ?_))|((with_reducible apply swo_pur);(with_reducible apply pu_ixF);rfl;rfl;(omega);(refine apk ?_)))|((with_reducible apply kx_ldCE (ia:=inferInstance) (enc:=encQ));exact fun _=>rfl;rfl;(exact atk);(omega);(refine apk ?_))|((with_reducible apply kx_stE (sz:=3) (enc:=encQ));exact fun _=>rfl;rfl;exact ty_size;rfl;rfl;(exact atk);assumption;(first|omega|(rw [List.length_set];omega));(refine apk ?_))|((with_reducible apply kx_call (f:=gf) (cap:=[]));exact hg;rfl;rfl;exact (hc1.up hl'.1);(exact atks);rintro v' H' ⟨⟨c9,rfl,hc9⟩,rfl⟩;all_goals ((try simp only [List.nil_append]);(refine apk ?_)))|exact xf|refine aw0 ?_|(refine ap2 ?_ ?_<;>try intro h)|refine aw1 ?_|(refine abx ?_;intro bb)|(refine abz ?_;intro bz)|(refine ahv ?_;intro v' hv')|(refine aac ?_;intro ac cc)|refine aw2 ?_|(refine ap4 ?_ ?_<;>try intro h)|apply True.intro)
       all_goals exact ⟨_,by omega,j - 1,_,rfl,⟨by omega,by omega⟩,hpz.trans hpn,hun,⟨_,atks⟩,asls⟩
     · have hc:Tri Tryz.prog r gf [.agg (encQ (zs.getD j default)).toArray,.agg (encQ (zs.getD (j - 1) default)).toArray] [] fun w H=>(∃ c:Int,w = .int .i64 c/\0<=c)/\H=[]:=hc0.mono (by
        rintro w H ⟨⟨c,rfl,hc⟩,rfl⟩
        exact ⟨⟨c,rfl,by
         have:¬ c<0:=fun h=>hlt2 (hc.1 h)
         omega⟩,rfl⟩)
       clear hc0
       repeat' (first|(rw [e1])|(rw [e2])|((with_reducible apply sw_lendQ (c:= .region 4 _ _) (A:=RowC 38 3 (.slice (some ⟨B,0,none⟩) n c) n (zs.flatMap encQ)));(with_reducible (exact atk));intro r1 g1 hr1 hg1 hA1;have hE1:Els r1 3 encQ (.slice (some ⟨B,0,none⟩) n c) zs:=⟨fun _=>rfl,by rw [hzl];exact hA1.sl hg1⟩;have hc1:=hc.up hr1)|((with_reducible apply sw_draw (id:=4) 17 [(0,true),(1,true),(2,true),(3,true),(4,true),(5,true),(6,true),(7,true),(8,true),(9,true),(10,true),(11,true),(12,true),(13,true),(14,false),(15,true),(16,true)] [] []);kernel_rfl;(exact atks);kernel_rfl;intro r' hl')|((with_reducible apply kx_call (f:=gf) (cap:=[]));exact hg;rfl;rfl;exact (hc1.up hl'.1);(exact atks);rintro v' H' ⟨⟨c9,rfl,hc9⟩,rfl⟩;all_goals ((try simp only [List.nil_append]);(refine apk ?_)))|exact xf|refine aw0 ?_|(refine ap2 ?_ ?_<;>try intro h)|refine aw1 ?_|(refine abx ?_;intro bb)|(refine abz ?_;intro bz)|(refine ahv ?_;intro v' hv')|(refine aac ?_;intro ac cc)|refine aw2 ?_|(refine ap4 ?_ ?_<;>try intro h)|apply True.intro)
       exact ⟨_,by omega,i+1,zs,rfl,⟨by omega,.inl (by omega)⟩,hpz,huz.stop (.inr ⟨haj,hlt2⟩),⟨_,atks⟩,asls⟩
   · obtain rfl:a=j:=by omega
     repeat' (first|((with_reducible apply sw_lendQ (c:= .region 4 _ _) (A:=RowC 38 3 (.slice (some ⟨B,0,none⟩) n c) n (zs.flatMap encQ)));(with_reducible (exact atk));intro r1 g1 hr1 hg1 hA1)|((with_reducible apply sw_draw (id:=4) 17 [(0,true),(1,true),(2,true),(3,true),(4,true),(5,true),(6,true),(7,true),(8,true),(9,true),(10,true),(11,true),(12,true),(13,true),(14,false),(15,true),(16,true)] [] []);kernel_rfl;(exact atks);kernel_rfl;intro r' hl')|exact xf|refine aw0 ?_|(refine ap2 ?_ ?_<;>try intro h)|refine aw1 ?_|(refine abx ?_;intro bb)|(refine abz ?_;intro bz)|(refine ahv ?_;intro v' hv')|(refine aac ?_;intro ac cc)|refine aw2 ?_|(refine ap4 ?_ ?_<;>try intro h)|apply True.intro)
     exact ⟨_,by omega,i+1,zs,rfl,⟨by omega,.inl (by omega)⟩,hpz,huz.stop (.inl rfl),⟨_,atks⟩,asls⟩
 · repeat' (first|exact xf|refine aw0 ?_|(refine ap2 ?_ ?_<;>try intro h)|refine aw1 ?_|(refine abx ?_;intro bb)|(refine abz ?_;intro bz)|(refine ahv ?_;intro v' hv')|(refine aac ?_;intro ac cc)|refine aw2 ?_|(refine ap4 ?_ ?_<;>try intro h)|apply True.intro)
   ((with_reducible apply fp_end);exact res_0 rfl)
   exact HR.out _ _ _ [_] atks ⟨ys,⟨hp,fun p q g1 g2 g3 g4=>hu p q g1 g2 (by omega) g4⟩,rfl⟩
end Go.Proofs.YteknekiclhnkiaaGreatDoor
