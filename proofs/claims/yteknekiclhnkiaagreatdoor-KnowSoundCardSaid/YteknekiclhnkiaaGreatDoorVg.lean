/- slices.stableCmpFunc, SortStableFunc at structs: their contracts. -/
import Derived.Test.YteknekiclhnkiaaGreatDoorVe
set_option maxHeartbeats 16000000
set_option maxRecDepth 10000
namespace Go.Proofs.YteknekiclhnkiaaGreatDoor
open Go.RowKit Sx
def SymQ (r:Hp) (B c:Nat) (gf:FuncId) (key:QuV->Tx) (n d:Nat):Prop := ∀ (xs:List QuV) (a m b:Nat) (ai mi bi:Int),xs.length=n->ai=a->mi=m->bi=b->a<m->m<b->b<=n->b<=a+d->(∀ x∈xs,(encQ x).all one?=true)->CmpBy Tryz.prog r gf encQ key xs->UpIn key a m xs->UpIn key m b xs ->
 Tri Tryz.prog r 159 [.slice (some ⟨B,0,none⟩) n c,.int .i64 ai,.int .i64 mi,.int .i64 bi,.func (.func gf) #[] #[]] [RowC 38 3 (.slice (some ⟨B,0,none⟩) n c) n (xs.flatMap encQ)] fun _ H => ∃ zs,(Part key a b xs zs/\UpIn key a b zs)/\H=[RowC 38 3 (.slice (some ⟨B,0,none⟩) n c) n (zs.flatMap encQ)]
theorem symCQ_any (r:Hp) (B c:Nat) (gf:FuncId) (key:QuV->Tx) (n d:Nat) (xs:List QuV) (a m b:Nat) (ai mi bi:Int) (hn:xs.length=n) (ha:ai=a) (hm:mi=m) (hb:bi=b) (h1:a+1<m) (h2:m+1<b) (h3:b<=n) (hd:b<=a+d+1) (hl:n<=10000000) (hg:GoesTo Tryz.prog gf) (hone : ∀ x∈xs,(encQ x).all one?=true) (hcmp:CmpBy Tryz.prog r gf encQ key xs) (u1:UpIn key a m xs) (u2:UpIn key m b xs) (ih:SymQ r B c gf key n d) :
 Tri Tryz.prog r 159 [.slice (some ⟨B,0,none⟩) n c,.int .i64 ai,.int .i64 mi,.int .i64 bi,.func (.func gf) #[] #[]] [RowC 38 3 (.slice (some ⟨B,0,none⟩) n c) n (xs.flatMap encQ)] fun _ H => ∃ zs,(Part key a b xs zs/\UpIn key a b zs)/\H=[RowC 38 3 (.slice (some ⟨B,0,none⟩) n c) n (zs.flatMap encQ)]:=by
 subst ha hb hm
 have hwm:=half_w a b (by omega)
 obtain ⟨mid,hmd⟩ : ∃ mid,(a+b) / 2=mid:=⟨_,rfl⟩
 rw [hmd] at hwm
 have hmid:a<mid/\mid<b/\2*mid<=a+b/\a+b<=2*mid+1:=by omega
 clear hmd
 obtain ⟨s0,r0,h0⟩ : ∃ s0 r0:Nat,(mid<m/\s0+b=mid+m/\r0=mid)\/(m<=mid/\s0=a/\r0=m):=by
  by_cases h:mid<m
  · exact ⟨mid+m - b,mid,.inl ⟨h,by omega,rfl⟩⟩
  · exact ⟨a,m,.inr ⟨by omega,rfl,rfl⟩⟩
 have h00:a<=s0/\s0<=r0/\r0<=m/\r0<=mid/\mid+m<=s0+b:=by omega
 refine Tri.free2 fun R HR=>?_
 refine ae Tryz.func159 Tryz.ntmps159 ?_
 repeat' (first|(rw [hwm])|exact xf|refine aw0 ?_|(refine ap2 ?_ ?_<;>try intro h)|refine aw1 ?_|(refine abx ?_;intro bb)|(refine abz ?_;intro bz)|(refine ahv ?_;intro v' hv')|(refine aac ?_;intro ac cc)|refine aw2 ?_|(refine ap4 ?_ ?_<;>try intro h)|apply True.intro)
 all_goals
  refine sw_loop (fun gm t H' => ∃ (s q:Nat),gm=q+1 - s/\(s0<=s/\s<=q/\q<=r0)/\(∀ t,s0<=t->t<s->¬ key (xs.getD (mid+m - 1 - t) default)<key (xs.getD t default))/\(∀ t,q<=t->t<r0->key (xs.getD (mid+m - 1 - t) default)<key (xs.getD t default))/\(∃ G,Takes [RowC 38 3 (.slice (some ⟨B,0,none⟩) n c) n (xs.flatMap encQ)] H' G)/\Sls t 220 [(0,.slice (some ⟨B,0,none⟩) n c),(1,.int .i64 a),(2,.int .i64 m),(3,.int .i64 b),(4,.func (.func gf) #[] #[]),(18,.int .i64 mid),(19,.int .i64 ((mid:Int)+m)),(20,.int .i64 s),(21,.int .i64 q),(22,.int .i64 ((mid:Int)+m - 1))]) _ ⟨s0,r0,rfl,⟨by omega,by omega,by omega⟩,fun t t1 t2=>absurd t2 (by omega),fun t t1 t2=>absurd t2 (by omega),⟨_,atks⟩,asls⟩ ?_
  rintro gm t H' ⟨s,q,rfl,hs,hlo,hhi,⟨G,hp⟩,hs'⟩
  revert t;refine sls_all ?_;iterate 210 intro uu'
  refine sw_takeG hp ?_;clear hp
  by_cases hlt:s<q
  · have hw:=half_w s q (by omega)
    obtain ⟨md,hh⟩ : ∃ md,(s+q) / 2=md:=⟨_,rfl⟩
    rw [hh] at hw
    have hh1:s<=md/\md<q:=by omega
    have hb1:m<=mid+m - 1 - md/\mid+m - 1 - md<b/\md<m/\a<=md:=by omega
    have hm1:xs.getD (mid+m - 1 - md) default∈xs:=getD_memV (by omega)
    have hm2:xs.getD md default∈xs:=getD_memV (by omega)
    have e1:((mid:Int)+m - 1 - md).toNat=mid+m - 1 - md:=by omega
    have e2:((md:Int)).toNat=md:=by omega
    by_cases hlt2:key (xs.getD (mid+m - 1 - md) default)<key (xs.getD md default)
    · have hc:=CmpBy.less hcmp hm1 hm2 hlt2
      repeat' (first|(rw [hw])|(rw [e1])|((with_reducible apply sw_lendQ (c:= .region 35 _ _) (A:=RowC 38 3 (.slice (some ⟨B,0,none⟩) n c) n (xs.flatMap encQ)));(with_reducible (exact atk));intro r1 g1 hr1 hg1 hA1;have hE1:Els r1 3 encQ (.slice (some ⟨B,0,none⟩) n c) xs:=⟨fun _=>rfl,by rw [hn];exact hA1.sl hg1⟩;have hc1:=hc.up hr1)|((with_reducible apply sw_draw (id:=35) 14 [(0,true),(1,true),(2,true),(3,true),(4,true),(5,true),(6,true),(7,true),(8,true),(9,true),(10,true),(11,false),(12,true),(13,true)] [] []);kernel_rfl;(exact atks);kernel_rfl;intro r' hl')|((with_reducible apply kx_call (f:=gf) (cap:=[]));exact hg;rfl;rfl;exact (hc1.up hl'.1);(exact atks);rintro v' H' ⟨⟨c9,rfl,hc9⟩,rfl⟩;all_goals ((try simp only [List.nil_append]);(refine apk ?_)))|exact xf|refine aw0 ?_|(refine ap2 ?_ ?_<;>try intro h)|refine aw1 ?_|(refine abx ?_;intro bb)|(refine abz ?_;intro bz)|(refine ahv ?_;intro v' hv')|(refine aac ?_;intro ac cc)|refine aw2 ?_|(refine ap4 ?_ ?_<;>try intro h)|apply True.intro)
      exact ⟨_,by omega,s,md,rfl,⟨by omega,by omega,by omega⟩,hlo,(fun t t1 t2=>(by
       by_cases e:t=md
       · rw [e];exact hlt2
       · exact lt_of_leK (lt_of_leK' (u2 (mid+m - 1 - t) (mid+m - 1 - md) (by omega) (by omega) (by omega) (by omega)) hlt2) (u1 md t (by omega) (by omega) (by omega) (by omega)))),⟨_,atks⟩,asls⟩
    · have hc:=CmpBy.more hcmp hm1 hm2 hlt2
      repeat' (first|(rw [hw])|(rw [e1])|((with_reducible apply sw_lendQ (c:= .region 35 _ _) (A:=RowC 38 3 (.slice (some ⟨B,0,none⟩) n c) n (xs.flatMap encQ)));(with_reducible (exact atk));intro r1 g1 hr1 hg1 hA1;have hE1:Els r1 3 encQ (.slice (some ⟨B,0,none⟩) n c) xs:=⟨fun _=>rfl,by rw [hn];exact hA1.sl hg1⟩;have hc1:=hc.up hr1)|((with_reducible apply sw_draw (id:=35) 14 [(0,true),(1,true),(2,true),(3,true),(4,true),(5,true),(6,true),(7,true),(8,true),(9,true),(10,true),(11,false),(12,true),(13,true)] [] []);kernel_rfl;(exact atks);kernel_rfl;intro r' hl')|((with_reducible apply kx_call (f:=gf) (cap:=[]));exact hg;rfl;rfl;exact (hc1.up hl'.1);(exact atks);rintro v' H' ⟨⟨c9,rfl,hc9⟩,rfl⟩;all_goals ((try simp only [List.nil_append]);(refine apk ?_)))|exact xf|refine aw0 ?_|(refine ap2 ?_ ?_<;>try intro h)|refine aw1 ?_|(refine abx ?_;intro bb)|(refine abz ?_;intro bz)|(refine ahv ?_;intro v' hv')|(refine aac ?_;intro ac cc)|refine aw2 ?_|(refine ap4 ?_ ?_<;>try intro h)|apply True.intro)
      exact ⟨_,by omega,md+1,q,rfl,⟨by omega,by omega,by omega⟩,(fun t t1 t2=>(by
       by_cases e:t=md
       · rw [e];exact hlt2
       · exact le_trK (le_trK (u1 t md (by omega) (by omega) (by omega) (by omega)) hlt2) (u2 (mid+m - 1 - md) (mid+m - 1 - t) (by omega) (by omega) (by omega) (by omega)))),hhi,⟨_,atks⟩,asls⟩
  · obtain rfl:s=q:=by omega
    have hf:Found key a m b mid s xs:=⟨⟨by omega,by omega,by omega,by omega⟩,⟨by omega,by omega,by omega,by omega⟩,u1,u2,fun t t1 t2 t3=>hlo t (by omega) t2,fun t t1 t2 t3=>hhi t t1 (by omega)⟩
    have hpr:=hf.part (by omega)
    have hup:=hf.ups (by omega)
    have hcr:=hf.cross (by omega)
    have hrt:=fun (g1:s<m) (g2:s<mid)=>rotateQ_any r B c (.func (.func gf) #[] #[]) xs n s m (mid+m - s) (s:Int) (m:Int) ((mid:Int)+m - s) hn rfl rfl (by omega) g1 (by omega) (by omega) (by omega) hone
    have hys:¬ (s<m/\s<mid)->rot s m (mid+m - s) xs=xs:=fun h=>by
     by_cases e:s=m
     · rw [e];exact rot_nil1 (by omega) (by omega)
     · rw [show mid+m - s=m by omega];exact rot_nil2 (by omega) (by omega)
    obtain ⟨ys,hy⟩ : ∃ ys,rot s m (mid+m - s) xs=ys:=⟨_,rfl⟩
    rw [hy] at hpr hup hcr hrt hys
    clear hy hf hlo hhi
    have hyl:ys.length=n:=by rw [hpr.len];exact hn
    have hoy : ∀ x∈ys,(encQ x).all one?=true:=fun x hx=>hone x (hpr.mem.1 hx)
    have hcy:CmpBy Tryz.prog r gf encQ key ys:=CmpBy.of hcmp fun x hx=>hpr.mem.1 hx
    obtain ⟨p1,p2,p3,p4⟩:=hup
    have i1:=fun g1 g2=>ih ys a s mid a s mid hyl rfl rfl rfl g1 g2 (by omega) (by omega) hoy hcy p1 p2
    have k1:¬ (a<s/\s<mid)->UpIn key a mid ys:=fun h=>by
     by_cases e:s=a
     · rw [← e];exact p2
     · rw [show mid=s by omega];exact p1
    have i2:=fun z (hz:Part key a mid ys z) (g1:s<m) (g2:mid+m<s+b)=>ih z mid (mid+m - s) b mid ((mid:Int)+m - s) b (by rw [hz.len];exact hyl) rfl (by omega) rfl (by omega) (by omega) h3 (by omega) (fun x hx=>hoy x (hz.mem.1 hx)) (CmpBy.of hcy fun x hx=>hz.mem.1 hx) (UpIn.of_out p3 hz (.inr (Nat.le_refl _))) (UpIn.of_out p4 hz (.inr (by omega)))
    have k2 : ∀ z,Part key a mid ys z->¬ (s<m/\mid+m<s+b)->UpIn key mid b z:=fun z hz h=>by
     by_cases e:s=m
     · have q4:=UpIn.of_out p4 hz (.inr (by omega))
       rw [e,show mid+m - m=mid by omega] at q4;exact q4
     · have q3:=UpIn.of_out p3 hz (.inr (Nat.le_refl _))
       rw [show mid+m - s=b by omega] at q3;exact q3
    have fin : ∀ z1 z2,Part key a mid ys z1->UpIn key a mid z1->Part key mid b z1 z2->UpIn key mid b z2->Part key a b xs z2/\UpIn key a b z2:=fun z1 z2 g1 g2 g3 g4 =>
     ⟨hpr.trans ((g1.wide (Nat.le_refl _) (by omega) (by omega)).trans (g3.wide (by omega) (Nat.le_refl _) (by rw [g1.len];omega))),((hcr.left g1).right g3).up (UpIn.of_out g2 g3 (.inl (Nat.le_refl _))) g4⟩
    clear p1 p2 p3 p4 hpr hcr hoy hcy
    by_cases hA:s<m/\s<mid
    · have hrt2:=hrt hA.1 hA.2
      by_cases hL:a<s/\s<mid
      · have j1:=i1 hL.1 hL.2
        by_cases hR:s<m/\mid+m<s+b
        · repeat' (first|(refine acl Tryz.func174 ?_;refine acr (hrt2) ?_;rintro v' H' rfl;all_goals refine apl ?_)|(refine acl Tryz.func159 ?_;refine acr (j1) ?_;rintro v' H' ⟨z1,⟨hz1,hw1⟩,rfl⟩;refine apl ?_)|(refine acl Tryz.func159 ?_;refine acr (i2 z1 hz1 hR.1 hR.2) ?_;rintro v' H' ⟨z2,⟨hz2,hw2⟩,rfl⟩;refine apl ?_)|exact xf|refine aw0 ?_|(refine ap2 ?_ ?_<;>try intro h)|refine aw1 ?_|(refine abx ?_;intro bb)|(refine abz ?_;intro bz)|(refine ahv ?_;intro v' hv')|(refine aac ?_;intro ac cc)|refine aw2 ?_|(refine ap4 ?_ ?_<;>try intro h)|apply True.intro)
          all_goals ((with_reducible apply fp_end);exact res_0 rfl)
          all_goals exact HR.out _ _ _ [_] atks ⟨z2,fin z1 z2 hz1 hw1 hz2 hw2,rfl⟩
        · repeat' (first|(refine acl Tryz.func174 ?_;refine acr (hrt2) ?_;rintro v' H' rfl;all_goals refine apl ?_)|(refine acl Tryz.func159 ?_;refine acr (j1) ?_;rintro v' H' ⟨z1,⟨hz1,hw1⟩,rfl⟩;refine apl ?_)|exact xf|refine aw0 ?_|(refine ap2 ?_ ?_<;>try intro h)|refine aw1 ?_|(refine abx ?_;intro bb)|(refine abz ?_;intro bz)|(refine ahv ?_;intro v' hv')|(refine aac ?_;intro ac cc)|refine aw2 ?_|(refine ap4 ?_ ?_<;>try intro h)|apply True.intro)
          all_goals ((with_reducible apply fp_end);exact res_0 rfl)
          all_goals exact HR.out _ _ _ [_] atks ⟨z1,fin z1 z1 hz1 hw1 (Part.refl (by omega) (by have:=hz1.len;omega)) (k2 z1 hz1 hR),rfl⟩
      · have hw1:=k1 hL
        have hz1:Part key a mid ys ys:=Part.refl (by omega) (by omega)
        by_cases hR:s<m/\mid+m<s+b
        · repeat' (first|(refine acl Tryz.func174 ?_;refine acr (hrt2) ?_;rintro v' H' rfl;all_goals refine apl ?_)|(refine acl Tryz.func159 ?_;refine acr (i2 ys hz1 hR.1 hR.2) ?_;rintro v' H' ⟨z2,⟨hz2,hw2⟩,rfl⟩;refine apl ?_)|exact xf|refine aw0 ?_|(refine ap2 ?_ ?_<;>try intro h)|refine aw1 ?_|(refine abx ?_;intro bb)|(refine abz ?_;intro bz)|(refine ahv ?_;intro v' hv')|(refine aac ?_;intro ac cc)|refine aw2 ?_|(refine ap4 ?_ ?_<;>try intro h)|apply True.intro)
          all_goals ((with_reducible apply fp_end);exact res_0 rfl)
          all_goals exact HR.out _ _ _ [_] atks ⟨z2,fin ys z2 hz1 hw1 hz2 hw2,rfl⟩
        · repeat' (first|(refine acl Tryz.func174 ?_;refine acr (hrt2) ?_;rintro v' H' rfl;all_goals refine apl ?_)|exact xf|refine aw0 ?_|(refine ap2 ?_ ?_<;>try intro h)|refine aw1 ?_|(refine abx ?_;intro bb)|(refine abz ?_;intro bz)|(refine ahv ?_;intro v' hv')|(refine aac ?_;intro ac cc)|refine aw2 ?_|(refine ap4 ?_ ?_<;>try intro h)|apply True.intro)
          all_goals ((with_reducible apply fp_end);exact res_0 rfl)
          all_goals exact HR.out _ _ _ [_] atks ⟨ys,fin ys ys hz1 hw1 (Part.refl (by omega) (by have:=hz1.len;omega)) (k2 ys hz1 hR),rfl⟩
    · obtain rfl:=hys hA
      clear hrt
      by_cases hL:a<s/\s<mid
      · have j1:=i1 hL.1 hL.2
        by_cases hR:s<m/\mid+m<s+b
        · repeat' (first|(refine acl Tryz.func159 ?_;refine acr (j1) ?_;rintro v' H' ⟨z1,⟨hz1,hw1⟩,rfl⟩;refine apl ?_)|(refine acl Tryz.func159 ?_;refine acr (i2 z1 hz1 hR.1 hR.2) ?_;rintro v' H' ⟨z2,⟨hz2,hw2⟩,rfl⟩;refine apl ?_)|exact xf|refine aw0 ?_|(refine ap2 ?_ ?_<;>try intro h)|refine aw1 ?_|(refine abx ?_;intro bb)|(refine abz ?_;intro bz)|(refine ahv ?_;intro v' hv')|(refine aac ?_;intro ac cc)|refine aw2 ?_|(refine ap4 ?_ ?_<;>try intro h)|apply True.intro)
          all_goals ((with_reducible apply fp_end);exact res_0 rfl)
          all_goals exact HR.out _ _ _ [_] atks ⟨z2,fin z1 z2 hz1 hw1 hz2 hw2,rfl⟩
        · repeat' (first|(refine acl Tryz.func159 ?_;refine acr (j1) ?_;rintro v' H' ⟨z1,⟨hz1,hw1⟩,rfl⟩;refine apl ?_)|exact xf|refine aw0 ?_|(refine ap2 ?_ ?_<;>try intro h)|refine aw1 ?_|(refine abx ?_;intro bb)|(refine abz ?_;intro bz)|(refine ahv ?_;intro v' hv')|(refine aac ?_;intro ac cc)|refine aw2 ?_|(refine ap4 ?_ ?_<;>try intro h)|apply True.intro)
          all_goals ((with_reducible apply fp_end);exact res_0 rfl)
          all_goals exact HR.out _ _ _ [_] atks ⟨z1,fin z1 z1 hz1 hw1 (Part.refl (by omega) (by have:=hz1.len;omega)) (k2 z1 hz1 hR),rfl⟩
      · have hw1:=k1 hL
        have hz1:Part key a mid ys ys:=Part.refl (by omega) (by omega)
        by_cases hR:s<m/\mid+m<s+b
        · repeat' (first|(refine acl Tryz.func159 ?_;refine acr (i2 ys hz1 hR.1 hR.2) ?_;rintro v' H' ⟨z2,⟨hz2,hw2⟩,rfl⟩;refine apl ?_)|exact xf|refine aw0 ?_|(refine ap2 ?_ ?_<;>try intro h)|refine aw1 ?_|(refine abx ?_;intro bb)|(refine abz ?_;intro bz)|(refine ahv ?_;intro v' hv')|(refine aac ?_;intro ac cc)|refine aw2 ?_|(refine ap4 ?_ ?_<;>try intro h)|apply True.intro)
          all_goals ((with_reducible apply fp_end);exact res_0 rfl)
          all_goals exact HR.out _ _ _ [_] atks ⟨z2,fin ys z2 hz1 hw1 hz2 hw2,rfl⟩
        · repeat' (first|exact xf|refine aw0 ?_|(refine ap2 ?_ ?_<;>try intro h)|refine aw1 ?_|(refine abx ?_;intro bb)|(refine abz ?_;intro bz)|(refine ahv ?_;intro v' hv')|(refine aac ?_;intro ac cc)|refine aw2 ?_|(refine ap4 ?_ ?_<;>try intro h)|apply True.intro)
          all_goals ((with_reducible apply fp_end);exact res_0 rfl)
          all_goals exact HR.out _ _ _ [_] atks ⟨ys,fin ys ys hz1 hw1 (Part.refl (by omega) (by have:=hz1.len;omega)) (k2 ys hz1 hR),rfl⟩
theorem symQ_all (r:Hp) (B c:Nat) (gf:FuncId) (key:QuV->Tx) (n:Nat) (hl:n<=10000000) (hg:GoesTo Tryz.prog gf) : ∀ d,SymQ r B c gf key n d
 | 0=>fun xs a m b ai mi bi hn ha hm hb h1 h2 h3 hd=>absurd hd (by omega)
 | d+1=>fun xs a m b ai mi bi hn ha hm hb h1 h2 h3 hd hone hcmp u1 u2=>by
  by_cases c1:a+1=m
  · exact symAQ_any r B c gf key xs n a m b ai mi bi hn ha hm hb c1 h2 h3 hl hg hone hcmp u2
  · by_cases c2:m+1=b
    · exact symBQ_any r B c gf key xs n a m b ai mi bi hn ha hm hb (by omega) c2 h3 hl hg hone hcmp u1
    · exact symCQ_any r B c gf key n d xs a m b ai mi bi hn ha hm hb (by omega) (by omega) h3 hd hl hg hone hcmp u1 u2 (symQ_all r B c gf key n hl hg d)
theorem stableQ_any (r:Hp) (B c:Nat) (gf:FuncId) (key:QuV->Tx) (xs:List QuV) (n:Nat) (ni:Int) (hn:xs.length=n) (hni:ni=n) (hl:n<=10000000) (hg:GoesTo Tryz.prog gf) (hone : ∀ x∈xs,(encQ x).all one?=true) (hcmp:CmpBy Tryz.prog r gf encQ key xs):Tri Tryz.prog r 130 [.slice (some ⟨B,0,none⟩) n c,.int .i64 ni,.func (.func gf) #[] #[]] [RowC 38 3 (.slice (some ⟨B,0,none⟩) n c) n (xs.flatMap encQ)] fun _ H => ∃ zs,(SameK key zs xs/\UpIn key 0 n zs)/\H=[RowC 38 3 (.slice (some ⟨B,0,none⟩) n c) n (zs.flatMap encQ)]:=by
 subst hni
 refine Tri.free2 fun R HR=>?_
 refine ae Tryz.func130 Tryz.ntmps130 ?_
 repeat' (first|refine aw0m ?_|(refine ap2 ?_ ?_<;>try intro h)|refine aw1m ?_|(refine abx ?_;intro bb)|(refine abz ?_;intro bz)|(refine ahv ?_;intro v' hv')|(refine aac ?_;intro ac cc)|refine aw2 ?_|(refine ap4 ?_ ?_<;>try intro h)|apply True.intro)
 refine sw_loop (fun gm t H' => ∃ (k:Nat) (ys:List QuV),gm=n+1 - 20*k/\(20*k<=n)/\(Part key 0 n xs ys)/\(Mixed key 20 1 k ys)/\(∃ G,Takes [RowC 38 3 (.slice (some ⟨B,0,none⟩) n c) n (ys.flatMap encQ)] H' G)/\Sls t 63 [(0,.slice (some ⟨B,0,none⟩) n c),(1,.int .i64 n),(2,.func (.func gf) #[] #[]),(6,.int .i64 20),(7,.int .i64 ((k*20:Nat):Int)),(8,.int .i64 ((k*20+20:Nat):Int))]) _ ⟨0,xs,rfl,by omega,Part.refl (Nat.zero_le _) (by omega),mixed_start blocks_one,⟨_,atks⟩,asls⟩ ?_
 rintro gm t H' ⟨k,ys,rfl,hk,hp,hmx,⟨G,hp⟩,hs'⟩
 revert t;refine sls_all ?_;iterate 57 intro uu'
 refine sw_takeG hp ?_;clear hp
 have hyl:ys.length=n:=by rw [hp.len];exact hn
 have hoy : ∀ x∈ys,(encQ x).all one?=true:=fun x hx=>hone x (hp.mem.1 hx)
 have hcy:CmpBy Tryz.prog r gf encQ key ys:=CmpBy.of hcmp fun x hx=>hp.mem.1 hx
 by_cases hlt:k*20+20<=n
 · have hc:=insertQ_any r B c gf key ys n (k*20) (k*20+20) _ _ hyl rfl rfl (by omega) hlt hl hg hoy hcy
   repeat' (first|(refine acl Tryz.func158 ?_;refine acr (hc) ?_;rintro v' H' ⟨zs,⟨hz,hzu⟩,rfl⟩;refine apl ?_)|exact xf|refine aw0 ?_|(refine ap2 ?_ ?_<;>try intro h)|refine aw1 ?_|(refine abx ?_;intro bb)|(refine abz ?_;intro bz)|(refine ahv ?_;intro v' hv')|(refine aac ?_;intro ac cc)|refine aw2 ?_|(refine ap4 ?_ ?_<;>try intro h)|apply True.intro)
   exact ⟨_,by omega,k+1,zs,rfl,by omega,hp.trans (hz.wide (Nat.zero_le _) hlt (by omega)),mixed_next hmx (by omega) (by omega) hz hzu,⟨_,atks⟩,asls⟩
 · have hc:=insertQ_any r B c gf key ys n (k*20) n _ n hyl rfl rfl (by omega) (Nat.le_refl _) hl hg hoy hcy
   repeat' (first|(refine acl Tryz.func158 ?_;refine acr (hc) ?_;rintro v' H' ⟨zs,⟨hz,hzu⟩,rfl⟩;refine apl ?_)|exact xf|refine aw0 ?_|(refine ap2 ?_ ?_<;>try intro h)|refine aw1 ?_|(refine abx ?_;intro bb)|(refine abz ?_;intro bz)|(refine ahv ?_;intro v' hv')|(refine aac ?_;intro ac cc)|refine aw2 ?_|(refine ap4 ?_ ?_<;>try intro h)|apply True.intro)
   have hbz:Blocks key 20 zs:=mixed_last hmx (by omega) (by omega) hz hzu
   have hpz:Part key 0 n xs zs:=hp.trans (hz.wide (Nat.zero_le _) (Nat.le_refl _) (by omega))
   clear hc hmx hoy hcy hyl hp hz hzu
   refine sw_loop (fun gm t H' => ∃ (m:Nat) (ws:List QuV),gm=n+1 - m/\(20<=m)/\(m<2*n+40)/\(Part key 0 n xs ws)/\(Blocks key m ws)/\(∃ G,Takes [RowC 38 3 (.slice (some ⟨B,0,none⟩) n c) n (ws.flatMap encQ)] H' G)/\Sls t 63 [(0,.slice (some ⟨B,0,none⟩) n c),(1,.int .i64 n),(2,.func (.func gf) #[] #[]),(6,.int .i64 m)]) _ ⟨20,zs,rfl,Nat.le_refl _,by omega,hpz,hbz,⟨_,atks⟩,asls⟩ ?_
   rintro gm t H' ⟨m,ws,rfl,hm,hm2,hpw,hbw,⟨G,hp⟩,hs'⟩
   revert t;refine sls_all ?_;iterate 59 intro uu'
   refine sw_takeG hp ?_;clear hp
   have hwl:ws.length=n:=by rw [hpw.len];exact hn
   by_cases hmn:m<n
   · repeat' (first|exact xf|refine aw0 ?_|(refine ap2 ?_ ?_<;>try intro h)|refine aw1 ?_|(refine abx ?_;intro bb)|(refine abz ?_;intro bz)|(refine ahv ?_;intro v' hv')|(refine aac ?_;intro ac cc)|refine aw2 ?_|(refine ap4 ?_ ?_<;>try intro h)|apply True.intro)
     refine sw_loop (fun gm t H' => ∃ (q a:Nat) (vs:List QuV),gm=n+1 - a/\(q*(2*m)=a)/\(a<=n)/\(Part key 0 n xs vs)/\(Mixed key (2*m) m q vs)/\(∃ G,Takes [RowC 38 3 (.slice (some ⟨B,0,none⟩) n c) n (vs.flatMap encQ)] H' G)/\Sls t 63 [(0,.slice (some ⟨B,0,none⟩) n c),(1,.int .i64 n),(2,.func (.func gf) #[] #[]),(6,.int .i64 m),(7,.int .i64 a),(8,.int .i64 ((a:Int)+2*m))]) _ ⟨0,0,ws,rfl,Nat.zero_mul _,Nat.zero_le _,hpw,mixed_start hbw,⟨_,atks⟩,asls⟩ ?_
     rintro gm t H' ⟨q,a,vs,rfl,hqa,ha,hpv,hmv,⟨G,hp⟩,hs'⟩
     revert t;refine sls_all ?_;iterate 57 intro uu'
     refine sw_takeG hp ?_;clear hp
     have hvl:vs.length=n:=by rw [hpv.len];exact hn
     have hov : ∀ x∈vs,(encQ x).all one?=true:=fun x hx=>hone x (hpv.mem.1 hx)
     have hcv:CmpBy Tryz.prog r gf encQ key vs:=CmpBy.of hcmp fun x hx=>hpv.mem.1 hx
     obtain ⟨t1,t2⟩:=mixed_two hmv
     have hnx:=fun zs=>mixed_next (k:=q) (zs:=zs) hmv (by omega) (by omega)
     have hls:=fun zs b=>mixed_last (zs:=zs) (b:=b) hmv
     rw [hqa] at t1 t2 hnx hls
     have hq1:(q+1)*(2*m)=a+2*m:=by rw [Nat.add_mul,Nat.one_mul,hqa]
     clear hmv hqa
     by_cases hlt:a+2*m<=n
     · have hc:=symQ_all r B c gf key n hl hg n vs a (a+m) (a+2*m) a ((a:Int)+m) ((a:Int)+2*m) hvl rfl (by omega) (by omega) (by omega) (by omega) hlt (by omega) hov hcv t1 t2
       repeat' (first|(refine acl Tryz.func159 ?_;refine acr (hc) ?_;rintro v' H' ⟨zs,⟨hz,hzu⟩,rfl⟩;refine apl ?_)|exact xf|refine aw0 ?_|(refine ap2 ?_ ?_<;>try intro h)|refine aw1 ?_|(refine abx ?_;intro bb)|(refine abz ?_;intro bz)|(refine ahv ?_;intro v' hv')|(refine aac ?_;intro ac cc)|refine aw2 ?_|(refine ap4 ?_ ?_<;>try intro h)|apply True.intro)
       exact ⟨_,by omega,q+1,a+2*m,zs,rfl,hq1,hlt,hpv.trans (hz.wide (Nat.zero_le _) hlt (by omega)),hnx zs hz hzu,⟨_,atks⟩,asls⟩
     · by_cases hlm:a+m<n
       · have hc:=symQ_all r B c gf key n hl hg n vs a (a+m) n a ((a:Int)+m) n hvl rfl (by omega) rfl (by omega) hlm (Nat.le_refl _) (by omega) hov hcv t1 (t2.sub (Nat.le_refl _) (by omega))
         repeat' (first|(refine acl Tryz.func159 ?_;refine acr (hc) ?_;rintro v' H' ⟨zs,⟨hz,hzu⟩,rfl⟩;refine apl ?_)|exact xf|refine aw0 ?_|(refine ap2 ?_ ?_<;>try intro h)|refine aw1 ?_|(refine abx ?_;intro bb)|(refine abz ?_;intro bz)|(refine ahv ?_;intro v' hv')|(refine aac ?_;intro ac cc)|refine aw2 ?_|(refine ap4 ?_ ?_<;>try intro h)|apply True.intro)
         exact ⟨_,by omega,m*2,zs,rfl,by omega,by omega,hpv.trans (hz.wide (Nat.zero_le _) (Nat.le_refl _) (by omega)),(by rw [Nat.mul_comm];exact hls zs n (by omega) (by omega) hz hzu),⟨_,atks⟩,asls⟩
       · repeat' (first|exact xf|refine aw0 ?_|(refine ap2 ?_ ?_<;>try intro h)|refine aw1 ?_|(refine abx ?_;intro bb)|(refine abz ?_;intro bz)|(refine ahv ?_;intro v' hv')|(refine aac ?_;intro ac cc)|refine aw2 ?_|(refine ap4 ?_ ?_<;>try intro h)|apply True.intro)
         exact ⟨_,by omega,m*2,vs,rfl,by omega,by omega,hpv,(by rw [Nat.mul_comm];exact hls vs n (by omega) (by omega) (Part.refl ha (by omega)) (t1.sub (Nat.le_refl _) (by omega))),⟨_,atks⟩,asls⟩
   · repeat' (first|exact xf|refine aw0 ?_|(refine ap2 ?_ ?_<;>try intro h)|refine aw1 ?_|(refine abx ?_;intro bb)|(refine abz ?_;intro bz)|(refine ahv ?_;intro v' hv')|(refine aac ?_;intro ac cc)|refine aw2 ?_|(refine ap4 ?_ ?_<;>try intro h)|apply True.intro)
     ((with_reducible apply fp_end);exact res_0 rfl)
     exact HR.out _ _ _ [_] atks ⟨ws,⟨hpw.same,by have h:=blocks_all hbw (by omega);rw [hwl] at h;exact h⟩,rfl⟩
theorem insert0Q_any (r:Hp) (v fv:Value):Tri Tryz.prog r 158 [v,.int .i64 0,.int .i64 0,fv] [] fun _ H=>H=[]:=by
 refine Tri.free2 fun R HR=>?_
 refine ae Tryz.func158 Tryz.ntmps158 ?_
 repeat' (first|refine aw0m ?_|(refine ap2 ?_ ?_<;>try intro h)|refine aw1m ?_|(refine abx ?_;intro bb)|(refine abz ?_;intro bz)|(refine ahv ?_;intro v' hv')|(refine aac ?_;intro ac cc)|refine aw2 ?_|(refine ap4 ?_ ?_<;>try intro h)|apply True.intro)
 refine sw_loop (fun gm t H'=>gm=0/\(∃ G,Takes [] H' G)/\Sls t 53 [(0,v),(1,.int .i64 0),(2,.int .i64 0),(3,fv),(8,.int .i64 1)]) _ ⟨rfl,⟨_,atks⟩,asls⟩ ?_
 rintro gm t H' ⟨rfl,⟨G,hp⟩,hs'⟩
 revert t;refine sls_all ?_;iterate 48 intro uu'
 refine sw_takeG hp ?_;clear hp
 repeat' (first|exact xf|refine aw0 ?_|(refine ap2 ?_ ?_<;>try intro h)|refine aw1 ?_|(refine abx ?_;intro bb)|(refine abz ?_;intro bz)|(refine ahv ?_;intro v' hv')|(refine aac ?_;intro ac cc)|refine aw2 ?_|(refine ap4 ?_ ?_<;>try intro h)|apply True.intro)
 ((with_reducible apply fp_end);exact res_0 rfl)
 exact HR.out _ _ _ [] atks rfl
theorem stable0Q_any (r:Hp) (v fv:Value):Tri Tryz.prog r 130 [v,.int .i64 0,fv] [] fun _ H=>H=[]:=by
 have hc:=insert0Q_any r v fv
 refine Tri.free2 fun R HR=>?_
 refine ae Tryz.func130 Tryz.ntmps130 ?_
 repeat' (first|refine aw0m ?_|(refine ap2 ?_ ?_<;>try intro h)|refine aw1m ?_|(refine abx ?_;intro bb)|(refine abz ?_;intro bz)|(refine ahv ?_;intro v' hv')|(refine aac ?_;intro ac cc)|refine aw2 ?_|(refine ap4 ?_ ?_<;>try intro h)|apply True.intro)
 refine sw_loop (fun gm t H'=>gm=0/\(∃ G,Takes [] H' G)/\Sls t 63 [(0,v),(1,.int .i64 0),(2,fv),(6,.int .i64 20),(7,.int .i64 0),(8,.int .i64 20)]) _ ⟨rfl,⟨_,atks⟩,asls⟩ ?_
 rintro gm t H' ⟨rfl,⟨G,hp⟩,hs'⟩
 revert t;refine sls_all ?_;iterate 57 intro uu'
 refine sw_takeG hp ?_;clear hp
 repeat' (first|(refine acl Tryz.func158 ?_;refine acr (hc) ?_;rintro v' H' rfl;all_goals refine apl ?_)|exact xf|refine aw0 ?_|(refine ap2 ?_ ?_<;>try intro h)|refine aw1 ?_|(refine abx ?_;intro bb)|(refine abz ?_;intro bz)|(refine ahv ?_;intro v' hv')|(refine aac ?_;intro ac cc)|refine aw2 ?_|(refine ap4 ?_ ?_<;>try intro h)|apply True.intro)
 refine sw_loop (fun gm t H'=>gm=0/\(∃ G,Takes [] H' G)/\Sls t 63 [(0,v),(1,.int .i64 0),(2,fv),(6,.int .i64 20)]) _ ⟨rfl,⟨_,atks⟩,asls⟩ ?_
 rintro gm t H' ⟨rfl,⟨G,hp⟩,hs'⟩
 revert t;refine sls_all ?_;iterate 59 intro uu'
 refine sw_takeG hp ?_;clear hp
 repeat' (first|exact xf|refine aw0 ?_|(refine ap2 ?_ ?_<;>try intro h)|refine aw1 ?_|(refine abx ?_;intro bb)|(refine abz ?_;intro bz)|(refine ahv ?_;intro v' hv')|(refine aac ?_;intro ac cc)|refine aw2 ?_|(refine ap4 ?_ ?_<;>try intro h)|apply True.intro)
 ((with_reducible apply fp_end);exact res_0 rfl)
 exact HR.out _ _ _ [] atks rfl
theorem sortStableQ_tri (r:Hp) (a:Option Addr) (c:Nat) (gf:FuncId) (key:QuV->Tx) (xs:List QuV) (hl:xs.length<=10000000) (hg:GoesTo Tryz.prog gf) (hone : ∀ x∈xs,(encQ x).all one?=true) (hcmp:CmpBy Tryz.prog r gf encQ key xs):Tri Tryz.prog r 102 [.slice a xs.length c,.func (.func gf) #[] #[]] [RowC 38 3 (.slice a xs.length c) xs.length (xs.flatMap encQ)] fun _ H => ∃ zs,(SameK key zs xs/\UpIn key 0 xs.length zs)/\H=[RowC 38 3 (.slice a xs.length c) xs.length (zs.flatMap encQ)]:=by
 by_cases h0:0<xs.length
 · refine tri_rowF (args:=fun a c=>[.slice a xs.length c,.func (.func gf) #[] #[]]) h0 fun B ha=>?_
   subst ha
   have hc:=stableQ_any r B c gf key xs xs.length xs.length rfl rfl hl hg hone hcmp
   refine Tri.free2 fun R HR=>?_
   refine ae Tryz.func102 Tryz.ntmps102 ?_
   repeat' (first|(refine acl Tryz.func130 ?_;refine acr (hc) ?_;rintro v' H' ⟨zs,hz,rfl⟩;refine apl ?_)|exact xf|refine aw0 ?_|(refine ap2 ?_ ?_<;>try intro h)|refine aw1 ?_|(refine abx ?_;intro bb)|(refine abz ?_;intro bz)|(refine ahv ?_;intro v' hv')|(refine aac ?_;intro ac cc)|refine aw2 ?_|(refine ap4 ?_ ?_<;>try intro h)|apply True.intro)
   ((with_reducible apply fp_end);exact res_0 rfl)
   exact HR.out _ _ _ [_] atks ⟨zs,hz,rfl⟩
 · have hx:xs=[]:=List.length_eq_zero_iff.1 (by omega)
   subst hx
   have hc:=stable0Q_any r (.slice a 0 c) (.func (.func gf) #[] #[])
   refine Tri.free2 fun R HR=>?_
   refine ae Tryz.func102 Tryz.ntmps102 ?_
   repeat' (first|(refine acl Tryz.func130 ?_;refine acr (hc) ?_;rintro v' H' rfl;all_goals refine apl ?_)|exact xf|refine aw0 ?_|(refine ap2 ?_ ?_<;>try intro h)|refine aw1 ?_|(refine abx ?_;intro bb)|(refine abz ?_;intro bz)|(refine ahv ?_;intro v' hv')|(refine aac ?_;intro ac cc)|refine aw2 ?_|(refine ap4 ?_ ?_<;>try intro h)|apply True.intro)
   ((with_reducible apply fp_end);exact res_0 rfl)
   exact HR.out _ _ _ [_] atks ⟨[],⟨SameK.refl _,UpIn.one (by simp)⟩,rfl⟩
end Go.Proofs.YteknekiclhnkiaaGreatDoor
